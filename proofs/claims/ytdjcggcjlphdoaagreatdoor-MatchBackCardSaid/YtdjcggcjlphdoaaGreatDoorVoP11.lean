/-
  The abstract layer, part A: abstract values and objects, how they stand for the model's values and blocks, and what a step of the run may change. It speaks of any program; no condition.
-/
import Derived.WalkKit
import Derived.ProofKit
set_option linter.unusedVariables false
set_option linter.unusedSimpArgs false
namespace Go.Vo
abbrev aA:=@Bool.and_eq_true
abbrev aB:=@Option.some.injEq
abbrev aC:=@List.isEmpty_cons
abbrev aD:=@List.isEmpty_nil
abbrev aE:=@Bool.false_eq_true
abbrev aF:=@Bool.or_false
abbrev aG:=@List.getElem?_append_left
abbrev aH:=@List.cons_append
abbrev aI:=@Bool.true_and
abbrev aJ:=@List.nil_append
abbrev aK:=@List.map_cons
abbrev aL:=@List.take_succ_cons
abbrev aM:=@Bool.and_false
abbrev aN:=@Bool.not_true
abbrev aO:=@Bool.false_and
abbrev aQ:=@List.length_cons
abbrev aR:=@List.getElem?_append_right
abbrev aS:=@Bool.not_false
abbrev aT:=@List.drop_succ_cons
abbrev aU:=@Option.isNone_some
abbrev aV:=@List.mem_singleton
abbrev aX:=@Option.isNone_none
abbrev aY:=@Array.getElem?_eq_some_iff
abbrev aZ:=@List.map_nil
abbrev bA:=@Bool.and_true
abbrev bB:=@List.filter_cons
abbrev bC:=@Bool.true_or
abbrev bD:=@Bool.or_true
abbrev bE:=@List.take_of_length_le
abbrev bF:=@List.all_eq_true
abbrev bG:=@List.drop_zero
abbrev bH:=@Prod.mk.injEq
abbrev bI:=@List.filter_nil
abbrev bJ:=@Nat.zero_le
abbrev bK:=@Nat.le_refl
abbrev bL:=@List.getElem?_eq_getElem
abbrev bM:=@List.mem_append
abbrev bO:=@Result.andThen_ok
abbrev bR:=@List.take_zero
abbrev bS:=@Bool.or_self
abbrev bT:=@List.getElem?_cons_zero
abbrev bU:=@List.append_assoc
abbrev bW:=@Array.getElem?_eq_getElem
abbrev bX:=@And.intro
abbrev bZ:=@List.getElem?_cons_succ
abbrev cB:=@List.length_nil
abbrev cC:=@Bool.or_eq_true
abbrev cD:=@Sem.run_bind
abbrev cG:=@List.map_append
abbrev cH:=@List.mem_cons
abbrev cI:=@List.take_append_drop
abbrev cJ:=@List.mem_cons_of_mem
abbrev cL:=@Array.getElem?_setIfInBounds
abbrev cN:=@Nat.mul_le_mul_right
abbrev cQ:=@List.mem_cons_self
abbrev cR:=@List.getElem?_toArray
abbrev cU:=@Bool.false_or
abbrev cV:=@List.drop_of_length_le
abbrev cW:=@List.mem_iff_getElem?
abbrev dB:=@Option.ite_none_right_eq_some
abbrev dC:=@List.mem_iff_getElem
abbrev dD:=@Bool.eq_false_iff
abbrev dE:=@List.getD_cons_succ
abbrev dG:=@Option.map_eq_some_iff
abbrev dH:=@List.mem_of_mem_take
abbrev dI:=@List.length_drop
abbrev dK:=@List.mem_append_left
abbrev dL:=@List.mem_singleton_self
abbrev dM:=@Nat.zero_add
abbrev dO:=@Option.map_some
abbrev dP:=@List.length_map
abbrev dQ:=@List.pairwise_iff_getElem
abbrev dS:=@List.mem_map
abbrev dU:=@Array.getElem?_append_left
abbrev dV:=@List.mem_flatMap
abbrev dW:=@List.getElem?_set_ne
abbrev dY:=@List.getElem?_take
abbrev eA:=@List.drop_eq_getElem_cons
abbrev eB:=@List.length_eq_zero_iff
abbrev eC:=@List.pairwise_append
abbrev eD:=@List.mem_of_getElem?
abbrev eE:=@Sem.run_pure
abbrev eF:=@Bool.not_eq_true'
abbrev eK:=@Nat.add_assoc
abbrev eL:=@List.getElem?_drop
abbrev eM:=@List.getD_cons_zero
abbrev eN:=@Array.getElem?_push
abbrev eO:=@List.mem_append_right
abbrev eV:=@List.getElem?_map
abbrev eZ:=@Bool.and_self
abbrev fA:=@Bool.eq_iff_iff
abbrev fB:=@List.flatten_cons
abbrev fC:=@List.any_cons
abbrev fE:=@List.mem_range
abbrev fI:=@List.nodup_nil
abbrev fL:=@List.mem_of_mem_drop
abbrev fN:=@List.getD_eq_getElem?_getD
abbrev fP:=@List.flatten_nil
abbrev fQ:=@List.any_eq_false
abbrev fR:=@Option.some.inj
abbrev fS:=@Nat.lt_of_lt_of_le
abbrev fW:=@List.findIdx?_eq_none_iff
abbrev fZ:=@Option.some_beq_some
abbrev gB:=@Option.getD_some
abbrev gD:=@List.take_length
abbrev gH:=@List.pairwise_cons
abbrev gJ:=@List.any_nil
abbrev gN:=@List.size_toArray
abbrev gO:=@List.getElem?_eq_some_iff
abbrev gQ:=@List.getElem?_modify
abbrev gR:=@Bool.or_eq_false_iff
abbrev gV:=@List.replicate_succ
abbrev gW:=@Bool.beq_eq_decide_eq
abbrev gX:=@Array.mem_of_getElem?
abbrev gY:=@List.any_eq_true
abbrev iF:=@List.set_cons_zero
abbrev iG:=@List.set_cons_succ
abbrev iH:=@List.eq_nil_iff_forall_not_mem
abbrev iI:=@List.length_pos_of_mem
abbrev iK:=@List.cons.injEq
abbrev iP:=@List.map_congr_left
abbrev iQ:=@List.getElem?_eq_none
abbrev iR:=@Array.getElem?_toList
abbrev jA:=@List.findIdx?_eq_some_iff_getElem
abbrev jB:=@List.findIdx?_cons
abbrev jC:=@Array.toArray_toList
abbrev jJ:=@List.getElem?_set_self
abbrev jK:=@Array.getElem?_extract
abbrev jL:=@List.takeWhile_cons
abbrev jM:=@List.flatten_append
abbrev jT:=@Nat.le_trans
abbrev jU:=@List.set_append_right
abbrev jV:=@List.mem_filter
abbrev jW:=@List.contains_iff_mem
abbrev kP:=@Array.size_append
abbrev kT:=@List.nodup_cons
abbrev lK:=@Nat.lt_or_ge
abbrev lN:=@List.mem_of_find?_eq_some
abbrev lO:=@List.lt_irrefl
abbrev mB:=@List.nodup_append
abbrev mC:=@Bool.not_eq_false
abbrev mD:=@Array.size_setIfInBounds
abbrev mS:=@List.lt_trans
abbrev mT:=@List.getElem?_replicate
abbrev mU:=@List.filterMap_cons
abbrev mX:=@List.Perm.refl
abbrev nI:=@List.length_eq_one_iff
abbrev nV:=@Nat.zero_mul
abbrev nW:=@Nat.add_comm
abbrev nX:=@List.foldl_cons
abbrev nY:=@List.find?_cons
abbrev nZ:=@Bool.and_eq_false_iff
abbrev oA:=@Array.size_push
abbrev oP:=@List.ext_getElem?
abbrev oQ:=@List.all_cons
abbrev oS:=@Array.ext'
abbrev pV:=@List.drop_drop
abbrev qK:=@List.getElem_mem
abbrev qL:=@Array.mem_append
abbrev qR:=@List.length_pos_iff
abbrev sQ:=@List.set_eq_take_append_cons_drop
abbrev sR:=@List.range_succ
abbrev sS:=@List.all_eq_not_any_not
abbrev tO:=@List.take_succ_eq_append_getElem
abbrev tQ:=@List.drop_eq_nil_of_le
abbrev wH:=@Bool.and_assoc
abbrev wN:=@Oper.wp_mono
abbrev wO:=@Nat.sub_self
abbrev wP:=@List.map_map
abbrev wQ:=@List.Perm.append_left
abbrev xP:=@Option.bind_some
abbrev xQ:=@List.perm_middle
abbrev xR:=@Bool.not_eq_true
abbrev xS:=@Array.replicate_zero
abbrev xT:=@Array.replicate_succ
abbrev D0:=@Ne.symm
abbrev D3:=@List.append_toArray
abbrev D5:=@Array.toList_filter
abbrev D6:=@Array.toList_append
abbrev D7:=@Array.getElem?_append_right
abbrev G9:=@List.perm_append_singleton
abbrev I8:=@Option.isSome_some
abbrev I9:=@Option.isSome_none
abbrev J0:=@List.find?_eq_none
abbrev J3:=@Array.getElem_push
abbrev S0:=@List.take_left
abbrev S2:=@List.getElem?_eq_none_iff
abbrev S3:=@List.exists_mem_of_ne_nil
abbrev U4:=@Value.slice.injEq
abbrev U5:=@Nat.lt_trichotomy
abbrev U6:=@List.push_toArray
abbrev U7:=@Array.ext
abbrev aCh:=@List.pairwise_singleton
abbrev aCp:=@Option.getD_none
abbrev aCq:=@List.zipIdx_cons
abbrev aHd:=@List.getElem?_eraseIdx
abbrev aHf:=@Array.getElem?_eq_none
abbrev aKj:=@Nat.succ_mul
abbrev aKk:=@Nat.sub_zero
abbrev aKo:=@List.length_singleton
abbrev aKq:=@Array.getElem?_append
abbrev aOx:=@Nat.blt_eq
abbrev aRu:=@List.replicate_succ'
abbrev aRv:=@List.length_eraseIdx
abbrev aRw:=@List.Pairwise.filter
abbrev aRy:=@Array.size_replicate
abbrev aRz:=@Array.mem_toList_iff
abbrev bBa:=@Nat.mul_one
abbrev bBd:=@List.mergeSort_perm
abbrev bBe:=@List.filter_eq_self
inductive AV where
 |u
 |b (x:Bool)
 |i (k:IntKind) (n:Int)
 |s (l:List UInt8)
 |p (v:Value)
 |e0
 |sl (cells:List AV) (n:Nat)
 |own (sz:Nat) (cells:List AV) (n:Nat)
 |hs (id off n:Nat) (t:Bool)
 |ptr (id off:Nat)
 |box (cells:List AV) (off:Nat)
 |mp (id:Nat)
 |mapv (ks vs:List AV)
 |fn (f:FuncId) (first capt:List AV)
 |agg (cells:List AV)
 |tup (vs:List AV)
 deriving Inhabited
inductive AObj where
 |dead
 |box (fz:Bool) (cells:List AV)
 |arr (fz:Bool) (sz:Nat) (cells:List AV)
 |map (fz:Bool) (ks vs:List AV)
 |sit (l:List UInt8) (pos:Nat)
 |mit (cur:Option (AV×AV)) (ks vs:List AV)
 |held (mv:Bool) (q:Option (Nat×Obj)→Prop)
 deriving Inhabited
def AObj.mv:AObj→Bool
 | .held m _=>m
 |_=>false
def AObj.isH:AObj→Bool
 | .held _ _=>true
 |_=>false
@[simp] theorem cBn:AObj.dead.isH=false:=rfl
@[simp] theorem cDq{f:Bool}{c:List AV}:(AObj.box f c).isH=false:=rfl
@[simp] theorem cDr{f:Bool}{s:Nat}{c:List AV}:(AObj.arr f s c).isH=false:=rfl
@[simp] theorem cDp{f:Bool}{k v:List AV}:(AObj.map f k v).isH=false:=rfl
@[simp] theorem cDl:AObj.dead.mv=false:=rfl
@[simp] theorem cGw{f:Bool}{c:List AV}:(AObj.box f c).mv=false:=rfl
@[simp] theorem cGx{f:Bool}{s:Nat}{c:List AV}:(AObj.arr f s c).mv=false:=rfl
@[simp] theorem cGv{f:Bool}{k v:List AV}:(AObj.map f k v).mv=false:=rfl
@[simp] theorem cGt{l:List UInt8}{k:Nat}:(AObj.sit l k).mv=false:=rfl
@[simp] theorem cGu{c:Option (AV×AV)}{k v:List AV}:(AObj.mit c k v).mv=false:=rfl
structure Ctx where
 F:Nat→Prop
 ι:Nat→Option (Nat×Nat)
def Ctx.none(F:Nat→Prop):Ctx:=⟨F,fun _=>Option.none⟩
def AV.one:AV→Bool
 | .u| .own .. | .agg _| .tup _=>false
 |_=>true
def AV.refs:AV→Option Nat
 | .hs id _ _ _| .ptr id _| .mp id=>some id
 |_=>Option.none
def kF(cs:Array Value):Prop:=∀(j:Nat) (v:Value),cs[j]? = some v→v.oneCell'=true
inductive RV (X:Ctx) (w:World) (h:List AObj):AV→Value→Prop
 |u (v):RV X w h .u v
 |b (x):RV X w h (.b x) (.bool x)
 |i (k n):RV X w h (.i k n) (.int k n)
 |s (l):RV X w h (.s l) (.string ⟨l.toArray⟩)
 |p (v):v.oneCell'=true→RV X w h (.p v) v
 |e0 (a):RV X w h .e0 (.slice a 0 0)
 |sl0 (a cap):RV X w h (.sl [] 0) (.slice a 0 cap)
 |sl {cells n b o cap cs T fr}:X.F b→w.heap[b]? = some (.cells cs T fr)→o+cells.length≤cs.size→n≤cap →
  (∀(j:Nat) (v:Value),j<cells.length→cs[o+j]? = some v→v.oneCell'=true) →
  (∀(j:Nat) (a:AV) (v:Value),cells[j]? = some a→cs[o+j]? = some v→RV X w h a v)→RV X w h (.sl cells n) (.slice (some ⟨b,o,Option.none⟩) n cap)
 |hs {id off n t fz sz cells b o cap T N}:h[id]? = some (.arr fz sz cells)→X.ι id=some (b,o)→w.shape? b=some (T,N)→off+n*sz≤cells.length →
  n≤cap→o+off+cap*sz≤N→(t=true→cap=n)→(t=false→cells.length≤off+cap*sz) →
  RV X w h (.hs id off n t) (.slice (some ⟨b,o+off,Option.none⟩) n cap)
 |hs0 {id off t fz sz cells a}:h[id]? = some (.arr fz sz cells)→(t=false→cells.length≤off)→off≤cells.length→RV X w h (.hs id off 0 t) (.slice a 0 0)
 |ptr {id off ob b o}:h[id]? = some ob→(ob ≠ .dead∧ob.mv=false)→X.ι id=some (b,o)→RV X w h (.ptr id off) (.pointer (some ⟨b,o+off,Option.none⟩))
 |mp {id fz ks vs b}:h[id]? = some (.map fz ks vs)→X.ι id=some (b,0)→RV X w h (.mp id) (.map (some b))
 |dead {a id v}:a.refs=some id→h[id]? = some .dead→v.oneCell'=true→RV X w h a v
 |box {cells off b o cs T fr}:X.F b→w.heap[b]? = some (.cells cs T fr)→o+cells.length≤cs.size →
  (∀(j:Nat) (v:Value),j<cells.length→cs[o+j]? = some v→v.oneCell'=true) →
  (∀(j:Nat) (a:AV) (v:Value),cells[j]? = some a→cs[o+j]? = some v→RV X w h a v)→RV X w h (.box cells off) (.pointer (some ⟨b,o+off,Option.none⟩))
 |mapv {ks vs b es clock}:X.F b→w.heap[b]? = some (.map es clock)→ks.length=es.size→vs.length=es.size →
  (∀(j:Nat) (a:AV) (e:MapEntry),ks[j]? = some a→es[j]? = some e→RV X w h a e.key) →
  (∀(j:Nat) (a:AV) (e:MapEntry),vs[j]? = some a→es[j]? = some e→RV X w h a e.val) →
  (∀(j:Nat) (e:MapEntry),es[j]? = some e→e.born<clock)→(∀(j k:Nat) (e e':MapEntry),es[j]? = some e→es[k]? = some e'→e.born=e'.born→j=k)→RV X w h (.mapv ks vs) (.map (some b))
 |fn {f first capt first' capt'}:first.length=first'.size→capt.length=capt'.size →
  (∀(j:Nat) (a:AV) (v:Value),first[j]? = some a→first'[j]? = some v→RV X w h a v) →
  (∀(j:Nat) (a:AV) (v:Value),capt[j]? = some a→capt'[j]? = some v→RV X w h a v)→RV X w h (.fn f first capt) (.func (.func f) first' capt')
 |agg {cells} {vs:Array Value}:cells.length=vs.size→kF vs →
  (∀(j:Nat) (a:AV) (v:Value),cells[j]? = some a→vs[j]? = some v→RV X w h a v)→RV X w h (.agg cells) (.agg vs)
 |tup {cells} {vs:Array Value}:cells.length=vs.size →
  (∀(j:Nat) (a:AV) (v:Value),cells[j]? = some a→vs[j]? = some v→RV X w h a v)→RV X w h (.tup cells) (.tuple vs)
def AObj.like:AObj→AObj→Prop
 | .dead,.dead=>True
 | .box _ c,.box _ d=>c.length=d.length
 | .arr _ s c,.arr _ t d=>s=t∧c.length=d.length
 | .map ..,.map .. => True
 | .sit ..,.sit .. => True
 | .mit ..,.mit .. => True
 | .held m _,.held n _=>m=n
 |_,_=>False
theorem AObj.like_refl(a:AObj):a.like a:=by cases a<;>simp[AObj.like]
theorem AObj.like_mv{a b:AObj}(h:a.like b):a.mv=b.mv:=by cases a<;>cases b<;>simp[AObj.like,AObj.mv]at h⊢ <;> exact h
theorem AObj.like_trans{a b c:AObj}(h:a.like b)(k:b.like c):a.like c:=by
 cases a<;>cases b<;>simp[AObj.like]at h<;>cases c<;>simp[AObj.like]at k⊢ <;> (try omega)<;>exact h.trans k
structure Ext(X:Ctx)(w:World)(h:List AObj)(X':Ctx)(w':World)(h':List AObj):Prop where
 fr:∀b,X.F b→X'.F b
 keep:∀b,X.F b→w'.heap[b]? = w.heap[b]?
 shp:∀b s,w.shape? b=some s→w'.shape? b=some s
 obj:∀id o,h[id]? = some o→∃o',h'[id]? = some o'∧(o'=.dead∨(o.like o'∧(X'.ι id=X.ι id∨o.mv=true)))
theorem Ext.refl(X:Ctx)(w:World)(h:List AObj):Ext X w h X w h:=
 ⟨fun _ h=>h,fun _ _=>rfl,fun _ _ h=>h,fun _ o h=>⟨o,h,.inr ⟨AObj.like_refl o,.inl rfl⟩⟩⟩
theorem Ext.trans{X X1 X2:Ctx}{w w1 w2:World}{h h1 h2:List AObj}(a:Ext X w h X1 w1 h1)(b:Ext X1 w1 h1 X2 w2 h2):Ext X w h X2 w2 h2:=by
 refine⟨fun x hx=>b.fr _ (a.fr _ hx),fun x hx=>(b.keep _ (a.fr _ hx)).trans (a.keep _ hx),fun x s hs=>b.shp _ _ (a.shp _ _ hs),?_⟩;intro id o ho;obtain⟨o1,h1',c1⟩:=a.obj id o ho;obtain⟨o2,h2',c2⟩:=b.obj id o1 h1';refine⟨o2,h2',?_⟩;rcases c2 with c2|⟨c2,e2⟩
 ·exact .inl c2
 ·rcases c1 with rfl|⟨c1,e1⟩
  ·cases o2<;>simp[AObj.like]at c2;exact .inl rfl
  ·refine .inr ⟨AObj.like_trans c1 c2,?_⟩;rcases e1 with e1|e1
   ·rcases e2 with e2|e2
    ·exact .inl (e2.trans e1)
    ·exact .inr ((AObj.like_mv c1).trans e2)
   ·exact .inr e1
theorem RV.mono{X X':Ctx}{w w':World}{h h':List AObj}{a:AV}{v:Value}(r:RV X w h a v)(e:Ext X w h X' w' h'):RV X' w' h' a v:=by
 induction r with
 |u v=>exact .u v
 |b x=>exact .b x
 |i k n=>exact .i k n
 |s l=>exact .s l
 |p v hv=>exact .p v hv
 |e0 a=>exact .e0 a
 |sl0 a cap=>exact .sl0 a cap
 |sl hF hb hl hc h1 _ ih=>exact .sl (e.fr _ hF) ((e.keep _ hF).trans hb) hl hc h1 ih
 | @hs id off n t fz sz cells b o cap T N hid hι hsh hn hc hN ht hf=>
   obtain⟨o',ho',c⟩:=e.obj _ _ hid;rcases c with rfl|⟨c,ei⟩
   ·exact .dead rfl ho' rfl
   ·cases o'<;>simp[AObj.like]at c;obtain⟨rfl,hl⟩:=c;have ei:=ei.resolve_right (by simp[AObj.mv]);exact .hs ho' (ei.trans hι) (e.shp _ _ hsh) (by omega) hc hN ht (fun k=>by have:=hf k;omega)
 | @hs0 id off t fz sz cells a hid hf ho=>
   obtain⟨o',ho',c⟩:=e.obj _ _ hid;rcases c with rfl|⟨c,ei⟩
   ·exact .dead rfl ho' rfl
   ·cases o'<;>simp[AObj.like]at c;obtain⟨rfl,hl⟩:=c;exact .hs0 ho' (fun k=>by have:=hf k;omega) (by omega)
 | @ptr id off ob b o hid hnd hι=>
   obtain⟨o',ho',c⟩:=e.obj _ _ hid;rcases c with rfl|⟨c,ei⟩
   ·exact .dead rfl ho' rfl
   ·refine .ptr ho' ⟨?_,(AObj.like_mv c).symm.trans hnd.2⟩ ((ei.resolve_right (by simp[hnd.2])).trans hι);rintro rfl;exact hnd.1 (by cases ob<;>simp[AObj.like]at c ⊢)
 |mp hid hι=>
  obtain⟨o',ho',c⟩:=e.obj _ _ hid;rcases c with rfl|⟨c,ei⟩
  ·exact .dead rfl ho' rfl
  ·cases o'<;>simp[AObj.like]at c;exact .mp ho' ((ei.resolve_right (by simp[AObj.mv])).trans hι)
 |dead hr hid hv=>
  obtain⟨o',ho',c⟩:=e.obj _ _ hid;refine .dead hr (ho'.trans ?_) hv;rcases c with rfl|⟨c,_⟩
  ·rfl
  ·cases o'<;>simp[AObj.like]at c;rfl
 |box hF hb hl h1 _ ih=>exact .box (e.fr _ hF) ((e.keep _ hF).trans hb) hl h1 ih
 |mapv hF hb hk hv _ _ hbn hbd ihk ihv=>exact .mapv (e.fr _ hF) ((e.keep _ hF).trans hb) hk hv ihk ihv hbn hbd
 |fn h1 h2 _ _ ih1 ih2=>exact .fn h1 h2 ih1 ih2
 |agg h1 h2 _ ih=>exact .agg h1 h2 ih
 |tup h1 _ ih=>exact .tup h1 ih
theorem RV.oneCell{X:Ctx}{w:World}{h:List AObj}{a:AV}{v:Value}(r:RV X w h a v)(ho:a.one=true):v.oneCell'=true:=by
 cases r with
 |dead hr hid hv=>exact hv
 |p v hv=>exact hv
 |_=>first|rfl|simp[AV.one]at ho
inductive ObjOK (X:Ctx) (w:World) (h:List AObj) (id:Nat):AObj→Prop
 |absent {ob}:X.ι id=Option.none→ob.isH=false→ObjOK X w h id ob
 |away {m q}:X.ι id=Option.none→q Option.none→ObjOK X w h id (.held m q)
 |box {fz cells b o cs T fr}:X.ι id=some (b,o)→w.heap[b]? = some (.cells cs T fr)→(fz=true→X.F b)→(fz=false→¬X.F b∧fr=(0,0)) →
  o+cells.length≤cs.size→(∀(j:Nat) (v:Value),j<cells.length→cs[o+j]? = some v→v.oneCell'=true)→(∀(j:Nat) (a:AV) (v:Value),cells[j]? = some a→cs[o+j]? = some v→RV X w h a v)→ObjOK X w h id (.box fz cells)
 |arr {fz sz cells b o cs T fr}:X.ι id=some (b,o)→w.heap[b]? = some (.cells cs T fr)→(fz=true→X.F b)→(fz=false→¬X.F b∧fr=(0,0)) →
  o+cells.length≤cs.size→(∀(j:Nat) (v:Value),j<cells.length→cs[o+j]? = some v→v.oneCell'=true)→(∀(j:Nat) (a:AV) (v:Value),cells[j]? = some a→cs[o+j]? = some v→RV X w h a v)→kF cs→ObjOK X w h id (.arr fz sz cells)
 |map {fz ks vs b es clock}:X.ι id=some (b,0)→w.heap[b]? = some (.map es clock)→(fz=true→X.F b)→(fz=false→¬X.F b)→ks.length=es.size→vs.length=es.size →
  (∀(j:Nat) (a:AV) (e:MapEntry),ks[j]? = some a→es[j]? = some e→RV X w h a e.key)→(∀(j:Nat) (a:AV) (e:MapEntry),vs[j]? = some a→es[j]? = some e→RV X w h a e.val) →
  (∀(j:Nat) (e:MapEntry),es[j]? = some e→e.born<clock)→(∀(j k:Nat) (e e':MapEntry),es[j]? = some e→es[k]? = some e'→e.born=e'.born→j=k)→ObjOK X w h id (.map fz ks vs)
 |held {m q b o}:X.ι id=some (b,0)→¬X.F b→w.heap[b]? = some o→q (some (b,o))→ObjOK X w h id (.held m q)
 |sit {l pos b}:X.ι id=some (b,0)→¬X.F b→w.heap[b]? = some (.stringIter ⟨l.toArray⟩ pos)→ObjOK X w h id (.sit l pos)
 |mit {cur ks vs b m seen es clock}:X.ι id=some (b,0)→¬X.F b→w.heap[b]? = some (.mapIter (some m) clock seen clock)→X.F m→w.heap[m]? = some (.map es clock) →
  (∀(j:Nat) (e:MapEntry),es[j]? = some e→e.born<clock)→(∀(j k:Nat) (e e':MapEntry),es[j]? = some e→es[k]? = some e'→e.born=e'.born→j=k) →
  ks.length=(es.filter fun e => !seen.contains e.born).size→vs.length=(es.filter fun e => !seen.contains e.born).size →
  (∀(j:Nat) (a:AV) (e:MapEntry),ks[j]? = some a→(es.filter fun e => !seen.contains e.born)[j]? = some e→RV X w h a e.key) →
  (∀(j:Nat) (a:AV) (e:MapEntry),vs[j]? = some a→(es.filter fun e => !seen.contains e.born)[j]? = some e→RV X w h a e.val) →
  (∀k v,cur=some (k,v)→∃e:MapEntry,seen.back? = some e.born∧es.find? (·.born == e.born)=some e∧RV X w h k e.key∧RV X w h v e.val)→ObjOK X w h id (.mit cur ks vs)
theorem ObjOK.mono{X X':Ctx}{w w':World}{h h':List AObj}{id:Nat}{ob:AObj}(r:ObjOK X w h id ob)(e:Ext X w h X' w' h')
 (hι:X'.ι id=X.ι id) (hb:∀b o,X.ι id=some (b,o)→w'.heap[b]? = w.heap[b]?) (hF:∀b o,X.ι id=some (b,o)→X'.F b→X.F b):ObjOK X' w' h' id ob:=by
 cases r with
 |absent h0 hh=>exact .absent (hι.trans h0) hh
 |away h0 h1=>exact .away (hι.trans h0) h1
 |box h0 h1 h2 h3 h4 h5 h6=>exact .box (hι.trans h0) ((hb _ _ h0).trans h1) (fun f=>e.fr _ (h2 f)) (fun f=>⟨fun g=>(h3 f).1 (hF _ _ h0 g),(h3 f).2⟩) h4 h5 (fun j a v ha hv=>(h6 j a v ha hv).mono e)
 |arr h0 h1 h2 h3 h4 h5 h6 h7=>exact .arr (hι.trans h0) ((hb _ _ h0).trans h1) (fun f=>e.fr _ (h2 f)) (fun f=>⟨fun g=>(h3 f).1 (hF _ _ h0 g),(h3 f).2⟩) h4 h5 (fun j a v ha hv=>(h6 j a v ha hv).mono e) h7
 |map h0 h1 h2 h3 h4 h5 h6 h7 h8 h9=>exact .map (hι.trans h0) ((hb _ _ h0).trans h1) (fun f=>e.fr _ (h2 f)) (fun f g=>h3 f (hF _ _ h0 g)) h4 h5 (fun j a v ha hv=>(h6 j a v ha hv).mono e) (fun j a v ha hv=>(h7 j a v ha hv).mono e) h8 h9
 |held h0 h1 h2 h3=>exact .held (hι.trans h0) (fun g=>h1 (hF _ _ h0 g)) ((hb _ _ h0).trans h2) h3
 |sit h0 h1 h2=>exact .sit (hι.trans h0) (fun g=>h1 (hF _ _ h0 g)) ((hb _ _ h0).trans h2)
 |mit h0 h1 h2 h3 h4 h5 h6 h7 h8 h9 h10 h11=>exact .mit (hι.trans h0) (fun g=>h1 (hF _ _ h0 g)) ((hb _ _ h0).trans h2) (e.fr _ h3) ((e.keep _ h3).trans h4) h5 h6 h7 h8 (fun j a v ha hv=>(h9 j a v ha hv).mono e) (fun j a v ha hv=>(h10 j a v ha hv).mono e) (fun k v hc=>have ⟨e1,a1,a2,a3,a4⟩:=h11 k v hc;⟨e1,a1,a2,a3.mono e,a4.mono e⟩)
abbrev Glob:=Nat→Option AV
def GRel(X:Ctx)(w:World)(h:List AObj)(k:Nat)(a:AV):Prop:=
 RV X w h a (.pointer (some ⟨k,0,Option.none⟩))∧∀cells off,a=.box cells off→X.F k∧∃cs T fr,w.heap[k]? = some (.cells cs T fr)∧cs.size=cells.length
theorem GRel.mono{X X':Ctx}{w w':World}{h h':List AObj}{k:Nat}{a:AV}(r:GRel X w h k a)(e:Ext X w h X' w' h'):GRel X' w' h' k a:=
 ⟨r.1.mono e,fun cells off ha=>have ⟨hF,cs,T,fr,h1,h2⟩:=r.2 cells off ha;⟨e.fr _ hF,cs,T,fr,(e.keep _ hF).trans h1,h2⟩⟩
structure GH(G:Glob)(X:Ctx)(w:World)(h:List AObj):Prop where
 objs:∀id ob,h[id]? = some ob→ObjOK X w h id ob
 dom:∀id bo,X.ι id=some bo→∃ob,h[id]? = some ob
 inj:∀id id' b o o',X.ι id=some (b,o)→X.ι id'=some (b,o')→id=id'
 bnd:∀id b o,X.ι id=some (b,o)→b<w.heap.size
 fbnd:∀b,X.F b→b<w.heap.size
 gl:∀g a,G g=some a→GRel X w h g a
structure Step(X:Ctx)(w:World)(X':Ctx)(w':World):Prop where
 size:w.heap.size≤w'.heap.size
 os:w'.os=w.os
 tape:w'.tape=w.tape
 output:w'.output=w.output
 frame:∀b,b<w.heap.size→(∀id o,X.ι id≠some (b,o))→w'.heap[b]? = w.heap[b]?
 new:∀id b o,X'.ι id=some (b,o)→w.heap.size≤b∨∃id0 o0,X.ι id0=some (b,o0)
 fnew:∀b,X'.F b→X.F b∨w.heap.size≤b∨∃id0 o0,X.ι id0=some (b,o0)
theorem Step.refl(X:Ctx)(w:World):Step X w X w:=
 ⟨bK _,rfl,rfl,rfl,fun _ _ _=>rfl,fun id b o h=>.inr ⟨id,o,h⟩,fun b h=>.inl h⟩
theorem Step.trans{X X1 X2:Ctx}{w w1 w2:World}(a:Step X w X1 w1)(b:Step X1 w1 X2 w2):Step X w X2 w2:=by
 refine⟨jT a.size b.size,b.os.trans a.os,b.tape.trans a.tape,b.output.trans a.output,?_,?_,?_⟩
 ·intro k hk hno;refine(b.frame k (fS hk a.size) ?_).trans (a.frame k hk hno);intro id o hio;rcases a.new id k o hio with h|⟨id0,o0,h⟩
  ·omega
  ·exact hno _ _ h
 ·intro id k o hio;rcases b.new id k o hio with h|⟨id0,o0,h⟩
  ·exact .inl (jT a.size h)
  ·exact a.new _ _ _ h
 ·intro k hk;rcases b.fnew k hk with h|h|⟨id0,o0,h⟩
  ·exact a.fnew _ h
  ·exact .inr (.inl (jT a.size h))
  ·exact .inr (a.new _ _ _ h)
def Abs(X:Ctx)(h h':List AObj):Prop:=∀(id:Nat) (z:List AV),h[id]? = some (.box false z)→X.ι id=Option.none→h'[id]? = some (.box false z)
structure Tr(X:Ctx)(w:World)(h:List AObj)(X':Ctx)(w':World)(h':List AObj):Prop where
 step:Step X w X' w'
 ext:Ext X w h X' w' h'
 abs:Abs X h h'
theorem Abs.trans{X X1:Ctx}{w w1:World}{h h1 h2:List AObj}(e:Ext X w h X1 w1 h1)(a:Abs X h h1)(b:Abs X1 h1 h2):Abs X h h2:=by
 intro id z hid hι;have h1':=a id z hid hι;obtain⟨o',ho',c⟩:=e.obj _ _ hid;rw[h1']at ho';cases ho';rcases c with c|⟨_,c⟩
 ·cases c
 ·exact b id z h1' ((c.resolve_right (by simp[AObj.mv])).trans hι)
theorem Tr.refl(X:Ctx)(w:World)(h:List AObj):Tr X w h X w h:=⟨.refl _ _,.refl _ _ _,fun _ _ h _=>h⟩
theorem Tr.trans{X X1 X2:Ctx}{w w1 w2:World}{h h1 h2:List AObj}(a:Tr X w h X1 w1 h1)(b:Tr X1 w1 h1 X2 w2 h2):Tr X w h X2 w2 h2:=
 ⟨a.step.trans b.step,a.ext.trans b.ext,Abs.trans a.ext a.abs b.abs⟩
structure EnvOK(D:List Deferred)(X:Ctx)(w:World)(h:List AObj)(env:List AV)(a:Act):Prop where
 defers:a.defers=D
 size:env.length=a.tmps.size
 rel:∀(j:Nat) (x:AV) (v:Value),env[j]? = some x→a.tmps[j]? = some v→RV X w h x v
theorem EnvOK.mono{D:List Deferred}{X X':Ctx}{w w':World}{h h':List AObj}{env:List AV}{a:Act}(r:EnvOK D X w h env a)(e:Ext X w h X' w' h'):EnvOK D X' w' h' env a:=
 ⟨r.defers,r.size,fun j x v hx hv=>(r.rel j x v hx hv).mono e⟩
def iV(env:List AV)(dst:Option Nat)(x:AV):List AV:=
 match dst with
 |some d=>env.set d x
 |Option.none=>env
theorem EnvOK.put{D:List Deferred}{X:Ctx}{w:World}{h:List AObj}{env:List AV}{a:Act}(r:EnvOK D X w h env a)(dst:Option Nat){x:AV}{v:Value}(hx:RV X w h x v) :
 EnvOK D X w h (iV env dst x) (a.put dst v):=by
 cases dst with
 |none=>exact r
 |some d=>
  refine⟨r.defers,by simp[iV,Act.put,r.size],?_⟩;intro j y u hy hu;simp only[iV,Act.put,List.getElem?_set,cL]at hy hu;by_cases hd:d=j
  ·subst hd;by_cases hlt:d<env.length
   ·have hlt':d<a.tmps.size:=r.size▸hlt;simp only[hlt,hlt',if_true,aB]at hy hu;exact hy▸hu▸hx
   ·simp[hlt]at hy
  ·simp only[hd,if_false]at hy hu;exact r.rel j y u hy hu
def bSh:AV→Option Value
 | .b x=>some (.bool x)
 | .i k n=>some (.int k n)
 | .s l=>some (.string ⟨l.toArray⟩)
 | .p v=>some v
 |_=>Option.none
def bIn:List AV→Option (List Value)
 | []=>some []
 |a::l=>match bSh a,bIn l with
  |some v,some vs=>some (v::vs)
  |_,_=>Option.none
def toV:AV→Option Value
 | .agg cs=>(bIn cs).map fun vs=>.agg vs.toArray
 |a=>bSh a
theorem aSr{X:Ctx}{w:World}{h:List AObj}{a:AV}{v v':Value}(r:RV X w h a v)(e:bSh a=some v'):v=v':=by
 cases a<;>simp only[bSh,aB,reduceCtorEq]at e<;>cases r<;>first|exact e|(exfalso;simp_all[AV.refs];done)
theorem aSq{X:Ctx}{w:World}{h:List AObj}:∀{l:List AV} {vs vs':List Value},l.length=vs.length→(∀(j:Nat) (a:AV) (v:Value),l[j]? = some a→vs[j]? = some v→RV X w h a v)→bIn l=some vs'→vs=vs'
 | [],[],_,_,_,e=>by simpa[bIn]using e
 | [],_::_,_,hl,_,_=>by simp at hl
 |_::_,[],_,hl,_,_=>by simp at hl
 |a :: l,v::vs,vs',hl,hr,e=>by
  rw[bIn]at e;cases h1:bSh a with
  |none=>simp[h1]at e
  |some u=>
   cases h2:bIn l with
   |none=>simp[h1,h2]at e
   |some us=>
    simp only[h1,h2,aB]at e;have q:vs=us:=aSq (by simpa using hl) (fun j a' v' ha hv=>hr (j+1) a' v' (by simpa using ha) (by simpa using hv)) h2;rw[← e,aSr (hr 0 a v rfl rfl) h1,q]
theorem bTu{X:Ctx}{w:World}{h:List AObj}{a:AV}{v v':Value}(r:RV X w h a v)(e:toV a=some v'):v=v':=by
 cases a with
 |agg cs=>
  cases r with
  | @agg _ vs h1 h2 h3=>
    rw[toV]at e;cases h4:bIn cs with
    |none=>simp[h4]at e
    |some us=>
     simp only[h4,dO,aB]at e;have q:vs.toList=us:=aSq (by simpa using h1) (fun j a v ha hv=>h3 j a v ha (by simpa using hv)) h4;rw[← e,← q,jC]
  |dead hr _ _=>simp[AV.refs]at hr
 |_=>exact aSr r e
def aRk:Value→AV
 | .bool x=>.b x
 | .int k n=>.i k n
 | .string s=>.s s.data.toList
 | .slice Option.none 0 0=>.e0
 | .pointer Option.none=>.p (.pointer Option.none)
 | .map Option.none=>.p (.map Option.none)
 | .nilFunc=>.p .nilFunc
 | .nilIface=>.p .nilIface
 |_=>.u
def aZw:Value→AV
 | .agg cs=>if cs.toList.all Value.oneCell' then .agg (cs.toList.map aRk)else .u
 |v=>aRk v
theorem aBy{X:Ctx}{w:World}{h:List AObj}(v:Value):RV X w h (aRk v) v:=by
 unfold aRk;split<;>first|exact .u _|exact .b _|exact .i _ _|exact .e0 _|exact .p _ rfl|skip
 rename_i s;have:=RV.s (X:=X) (w:=w) (h:=h) s.data.toList;simpa using this
theorem aZv{X:Ctx}{w:World}{h:List AObj}(v:Value):RV X w h (aZw v) v:=by
 unfold aZw;split
 ·rename_i cs;split
  ·rename_i ha;refine .agg (by simp) ?_ ?_
   ·intro j v hv;have hm:v∈cs.toList:=by
     rw[cW];exact⟨j,by simpa using hv⟩
    exact(bF.1 ha) v hm
   ·intro j a v ha hv;simp only[eV]at ha;have:cs.toList[j]? = some v:=by simpa using hv
    rw[this]at ha;simp at ha;exact ha▸aBy v
  ·exact .u _
 ·exact aBy v
def aev(G:Glob)(env:List AV):Operand→AV
 | .tmp t=>env.getD t .u
 | .const v=>aZw v
 | .global g=>(G g).getD .u
 | .func f=>.fn f [] []
theorem jG{G:Glob}{D:List Deferred}{X:Ctx}{w:World}{h:List AObj}{env:List AV}{a:Act}(g:GH G X w h)(r:EnvOK D X w h env a)(x:Operand):RV X w h (aev G env x) (a.eval x):=by
 cases x with
 |tmp t=>
  simp only[aev,Act.eval];by_cases ht:t<env.length
  ·have ht':t<a.tmps.size:=r.size▸ht;have h1:env[t]? = some (env.getD t .u):=by simp[ht]
   have h2:a.tmps[t]? = some (a.tmps.getD t undef):=by simp[Array.getD,ht']
   exact r.rel t _ _ h1 h2
  ·have:env.getD t .u=.u:=by rw[List.getD,iQ (Nat.le_of_not_lt ht)];rfl
   rw[this];exact .u _
 |const v=>exact aZv v
 |global k=>
  simp only[aev,Act.eval];cases hk:G k with
  |none=>exact .u _
  |some y=>exact(g.gl k y hk).1
 |func f=>exact .fn rfl rfl (fun j a v ha=>by simp at ha) (fun j a v ha=>by simp at ha)
section
variable (P:Program) (G:Glob)
def lP(T:TypeId):Option Nat:=(P.info? T).map (·.size)
def aCo(T:TypeId):Option Nat:=(P.info? T).map (·.bytes)
def iM(T:TypeId):Option Bool:=(P.underlying T).map fun| .struct _| .array _ _=>true|_=>false
def U8(z:Value):Option (List AV):=if z.cells.toList.all Value.oneCell' then some (z.cells.toList.map aRk)else none
def zeroOf(T:TypeId):Option (List AV):=((P.info? T).bind (·.zero)).bind U8
def rK(T:TypeId):Option AV:=((P.info? T).bind (·.zero)).map aZw
def fV(T:TypeId):Option TypeId:=match P.underlying T with|some (.slice e)=>some e|_=>Option.none
def lV(T:TypeId)(f:Nat):Option (Nat×TypeId):=match P.underlying T with|some (.struct fs)=>(fs[f]?).map fun x=>(x.offset,x.type)|_=>Option.none
def kY:AV→Option (List AV)
 | .agg cs=>some cs
 |a=>if a.one then some [a]else Option.none
def kO(cells:List AV)(off:Nat)(cs:List AV):List AV:=cells.take off++cs++cells.drop (off+cs.length)
def apart(T:TypeId)(cells:List AV)(off:Nat):Option AV:=
 match iM P T with
 |some true=>match lP P T with
  |some n=>if off+n≤cells.length then some (.agg ((cells.drop off).take n))else Option.none
  |Option.none=>Option.none
 |some false=>cells[off]?
 |Option.none=>Option.none
def nU(place:Nat→Option (Nat×Nat))(cells:List AV):List (Nat×AV)→Option (List AV)
 | []=>some cells
 |(i,a)::rest=>
  match place i,kY a with
  |some (off,size),some cs=>if cs.length=size∧off+cs.length≤cells.length then nU place (kO cells off cs) rest else Option.none
  |_,_=>Option.none
def jP(T:TypeId):Option (List (Nat×Nat)):=
 match P.underlying T with
 |some (.struct fs)=>fs.toList.mapM fun f=>(P.info? f.type).map fun i=>(f.offset,i.size)
 |some (.array n e)=>(P.info? e).map fun i=>(List.range n).map fun k=>(k*i.size,i.size)
 |_=>Option.none
def aOm(h:List AObj):AV→Option (List AV×Nat)
 | .ptr id off=>match h[id]? with
   |some (.box _ cells)=>some (cells,off)
   |some (.arr _ _ cells)=>some (cells,off)
   |_=>Option.none
 | .box cells off=>some (cells,off)
 |_=>Option.none
def zX(T:TypeId)(h:List AObj)(a:AV):Option AV:=
 match aOm h a with
 |some (cells,off)=>apart P T cells off
 |Option.none=>Option.none
def uV(h:List AObj)(T:TypeId)(a x:AV):Option (List AObj):=
 match a,kY x,lP P T with
 | .ptr id off,some cs,some n=>match h[id]? with
   |some (.box false cells)=>if cs.length=n∧off+cs.length≤cells.length then some (h.set id (.box false (kO cells off cs)))else Option.none
   |some (.arr false sz cells)=>if cs.length=n∧off+cs.length≤cells.length then some (h.set id (.arr false sz (kO cells off cs)))else Option.none
   |_=>Option.none
 |_,_,_=>Option.none
def R0(h:List AObj)(sz:Nat):AV→Option (List AV×Nat)
 | .e0=>some ([],0)
 | .sl cells n=>if cells.length=n*sz then some (cells,n)else Option.none
 | .hs id off n _=>match h[id]? with
   |some (.arr _ s cells)=>if s=sz∧off+n*sz≤cells.length then some ((cells.drop off).take (n*sz),n)else Option.none
   |_=>Option.none
 |_=>Option.none
def bAu(h:List AObj)(T:TypeId)(x:AV):Option Nat:=
 match P.underlying T with
 |some .string=>match x with
  | .s l=>some l.length
  |_=>Option.none
 |some (.slice _)=>match x with
  | .e0=>some 0
  | .sl _ n=>some n
  | .hs id _ n _=>match h[id]? with|some (.arr ..)=>some n|_=>Option.none
  |_=>Option.none
 |some (.map ..)=>match x with
  | .mapv ks _=>some ks.length
  | .mp id=>match h[id]? with|some (.map _ ks _)=>some ks.length|_=>Option.none
  | .p (.map Option.none)=>some 0
  |_=>Option.none
 |_=>Option.none
def kE(h:List AObj)(T:TypeId)(x i:AV):Option AV:=
 match i with
 | .i _ n=>match P.underlying T with
   |some (.slice e)=>match lP P e with
    |some sz=>match x with
     | .sl cells len=>if 0≤n∧n<len then some (.box cells (n.toNat*sz))else Option.none
     | .hs id off len _=>match h[id]? with
       |some (.arr ..)=>if 0≤n∧n<len then some (.ptr id (off+n.toNat*sz))else Option.none
       |_=>Option.none
     |_=>Option.none
    |Option.none=>Option.none
   |some (.array len e)=>match lP P e with
    |some sz=>if 0≤n∧n<len then(match x with
     | .ptr id off=>match h[id]? with|some (.box ..)|some (.arr ..)=>some (.ptr id (off+n.toNat*sz))|_=>Option.none
     | .box cells off=>some (.box cells (off+n.toNat*sz))
     |_=>Option.none)else Option.none
    |Option.none=>Option.none
   |_=>Option.none
 |_=>Option.none
def R9(T:TypeId)(x i:AV):Option AV:=
 match i with
 | .i _ n=>match P.underlying T,x with
   |some .string,.s l=>if 0≤n∧n<l.length then some (.i .u8 (l.getD n.toNat 0).toNat)else Option.none
   |some (.array len e),.agg cs=>match lP P e with
    |some sz=>if 0≤n∧n<len then apart P e cs (n.toNat*sz)else Option.none
    |Option.none=>Option.none
   |_,_=>Option.none
 |_=>Option.none
def zW:Option AV→Nat→Option Nat
 |Option.none,d=>some d
 |some (.i _ n),_=>if 0≤n then some n.toNat else Option.none
 |some _,_=>Option.none
def sY(h : List AObj)(T:TypeId)(x:AV)(lo hi mx:Option AV):Option AV:=
 if mx.isSome&&hi.isNone then Option.none else
 match P.underlying T with
 |some .string=>match x,mx with
  | .s l,Option.none=>match zW hi l.length,zW lo 0 with
    |some b,some a=>if a≤b∧b≤l.length then some (.s ((l.take b).drop a))else Option.none
    |_,_=>Option.none
  |_,_=>Option.none
 |some (.slice e)=>match lP P e with
  |some sz => match x with
   | .e0=>match zW hi 0,zW lo 0,zW mx 0 with
     |some 0,some 0,some 0=>some .e0
     |_,_,_=>Option.none
   | .sl cells n=>match mx with
     |Option.none=>match zW hi n,zW lo 0 with
      |some b,some a=>if a≤b∧b≤n∧cells.length=n*sz then some (.sl ((cells.take (b*sz)).drop (a*sz)) (b-a))else Option.none
      |_,_=>Option.none
     |some m=>match zW hi n,zW lo 0,zW (some m) 0 with
      |some 0,some 0,some 0=>some .e0
      |some b,some a,some c=>if a≤b∧b≤c∧c≤n∧cells.length=n*sz then some (.sl ((cells.take (b*sz)).drop (a*sz)) (b-a))else Option.none
      |_,_,_=>Option.none
   | .hs id off n t=>match h[id]? with
     |some (.arr _ s cells)=>match zW hi n,zW lo 0 with
      |some b,some a=>if s=sz∧a≤b∧b≤n∧off+n*sz≤cells.length then
       (match mx with
        |Option.none=>if t=true∧b≠n then Option.none else some (.hs id (off+a*sz) (b-a) t)
        |some m=>match zW (some m) 0 with
         |some c=>if c=b then some (.hs id (off+a*sz) (b-a) true)else Option.none
         |Option.none=>Option.none)else Option.none
      |_,_=>Option.none
     |_=>Option.none
   |_=>Option.none
  |Option.none=>Option.none
 |some (.array n e)=>match lP P e,lo,hi,mx with
  |some sz,Option.none,Option.none,Option.none=>match x with
   | .ptr id 0=>match h[id]? with
     |some (.arr _ s cells)=>if s=sz∧cells.length=n*sz then some (.hs id 0 n false)else Option.none
     |_=>Option.none
   |_=>Option.none
  |_,_,_,_=>Option.none
 |_=>Option.none
def cBs(op:BinOp)(a b:Int):Option AV:=
 match op with
 | .eql=>some (.b (decide (a=b)))
 | .neq=>some (.b (!decide (a=b)))
 | .lss=>some (.b (decide (a<b)))
 | .leq=>some (.b (decide (a≤b)))
 | .gtr=>some (.b (decide (b<a)))
 | .geq=>some (.b (decide (b≤a)))
 |_=>Option.none
def aRt(op:BinOp)(k:IntKind)(a b:Int):Option AV:=
 match op with
 | .add=>some (.i k (k.wrap (a+b)))
 | .sub=>some (.i k (k.wrap (a-b)))
 | .mul=>some (.i k (k.wrap (a*b)))
 | .quo=>if b=0 then Option.none else some (.i k (k.wrap (a.tdiv b)))
 | .rem=>if b=0 then Option.none else some (.i k (a.tmod b))
 | .shr=>if b=1 then some (.i k (a / 2))else Option.none
 | .shl| .and| .or| .xor| .andNot=>Option.none
 |op=>cBs op a b
def bId(op:BinOp)(a b:List UInt8):Option AV:=
 match op with
 | .add=>if a.length+b.length≤140737488355328 then some (.s (a++b))else Option.none
 | .eql=>some (.b (decide (a=b)))
 | .neq=>some (.b (!decide (a=b)))
 | .lss=>some (.b (Op.bytesLess a b))
 | .leq=>some (.b (Op.bytesLess a b||decide (a=b)))
 | .gtr=>some (.b (!(Op.bytesLess a b||decide (a=b))))
 | .geq=>some (.b (!(Op.bytesLess a b)))
 |_=>Option.none
def lM(T:TypeId)(x y:AV):Option Bool:=
 match P.underlying T,x,y with
 |some .bool,.b x,.b y=>some (decide (x=y))
 |some (.int _),.i k x,.i l y=>if k=l then some (decide (x=y))else Option.none
 |some .string,.s x,.s y=>some (decide (x=y))
 |_,_,_=>Option.none
def G4(T:TypeId):Bool:=match P.underlying T with|some .bool|some (.int _)|some .string=>true|_=>false
def kR(T:TypeId):Option (List TypeId):=
 match P.underlying T with
 |some (.struct fs)=>
  if(fs.toList.zipIdx.all fun(f,j)=>f.name != "_" && f.offset == j&&G4 P f.type) && !P.stoodInHeld T && !P.eqGuardType P.depth T then some (fs.toList.map (·.type))else Option.none
 |_=>Option.none
def jH:List TypeId→List AV→List AV→Option Bool
 | [],[],[]=>some true
 |t::ts,x::xs,y::ys=>match lM P t x y,jH ts xs ys with
  |some a,some b=>some (a&&b)
  |_,_=>Option.none
 |_,_,_=>Option.none
def aEq(T:TypeId)(x y:AV):Option Bool:=
 match x,y with
 | .agg xs,.agg ys=>match kR P T with
   |some ts=>jH P ts xs ys
   |Option.none=>Option.none
 |x,y=>lM P T x y
def bIf(op:BinOp)(T:TypeId)(x y:AV):Option AV:=
 match x,y with
 | .i k a,.i l b=>if k=l then aRt op k a b else Option.none
 | .s a,.s b=>bId op a b
 | .b a,.b b=>match op,P.underlying T with
   | .eql,some .bool=>some (.b (decide (a=b)))
   | .neq,some .bool=>some (.b (!decide (a=b)))
   |_,_=>Option.none
 | .agg xs,.agg ys=>match op with
   | .eql=>(aEq P T (.agg xs) (.agg ys)).map .b
   | .neq=>(aEq P T (.agg xs) (.agg ys)).map fun r=>.b (!r)
   |_=>Option.none
 |_,_=>Option.none
def aUn(op:UnOp)(x:AV):Option AV:=
 match op,x with
 | .not,.b x=>some (.b (!x))
 | .neg,.i k n=>some (.i k (k.wrap (0-n)))
 |_,_=>Option.none
def aKh(src dst:TypeId)(x:AV):Option AV:=
 match P.underlying src,P.underlying dst,x with
 |some (.int _),some (.int k),.i _ n=>some (.i k (k.wrap n))
 |some .string,some .string,.s l=>some (.s l)
 |_,_,_=>Option.none
def gG(T:TypeId)(k:AV):List AV→Option (Option Nat)
 | []=>some Option.none
 |x::xs=>match aEq P T k x,gG T k xs with
  |some true,some _=>some (some 0)
  |some false,some r=>some (r.map (·+1))
  |_,_=>Option.none
def nD(T:TypeId)(x:AV):Bool:=
 match x with
 | .agg xs=>match kR P T with|some ts=>ts.length == xs.length|Option.none=>false
 | .b _=>match P.underlying T with|some .bool=>true|_=>false
 | .i _ _=>match P.underlying T with|some (.int _)=>true|_=>false
 | .s _=>match P.underlying T with|some .string=>true|_=>false
 |_=>false
def rH(h:List AObj):AV→Option (List AV×List AV)
 | .mapv ks vs=>some (ks,vs)
 | .mp id=>match h[id]? with|some (.map _ ks vs)=>some (ks,vs)|_=>Option.none
 | .p (.map Option.none)=>some ([],[])
 |_=>Option.none
def pO(h:List AObj)(T:TypeId)(m k:AV)(ok:Bool):Option AV:=
 match P.underlying T with
 |some (.map K E)=>if nD P K k then(match rH h m,rK P E with
  |some (ks,vs),some z=>match gG P K k ks with
   |some (some j)=>match vs[j]? with
    |some x=>some (if ok then .tup [x,.b true]else x)
    |Option.none=>Option.none
   |some Option.none=>some (if ok then .tup [z,.b false]else z)
   |Option.none=>Option.none
  |_,_=>Option.none)else Option.none
 |_=>Option.none
def gP(h:List AObj)(T:TypeId)(m k x:AV):Option (List AObj):=
 match P.underlying T with
 |some (.map K _)=>if nD P K k then(match m with
  | .mp id=>match h[id]? with
    |some (.map false ks vs)=>match gG P K k ks with
     |some (some j)=>some (h.set id (.map false (ks.set j k) (vs.set j x)))
     |some Option.none=>some (h.set id (.map false (ks++[k]) (vs++[x])))
     |Option.none=>Option.none
    |_=>Option.none
  |_=>Option.none)else Option.none
 |_=>Option.none
def iE(h:List AObj)(T:TypeId)(s x:AV):Option (AV×List AObj):=
 match fV P T with
 |some e => match zeroOf P e,aCo P e with
  |some z,some by_=>if 0<z.length∧lP P e=some z.length then(match R0 h z.length x with
   |some (news,m)=>match s with
    | .e0=>if m*by_≤140737488355328∧m≤140737488355328 then some (.hs h.length 0 m false,h++[.arr false z.length news])else Option.none
    | .hs id off n t=>match h[id]? with
      |some (.arr fz s cells)=>if s=z.length∧off+n*z.length≤cells.length∧(n+m)*by_≤140737488355328∧n+m≤140737488355328 then
       (if t then(if 0<m then some (.hs h.length 0 (n+m) false,h++[.arr false z.length ((cells.drop off).take (n*z.length)++news)])else Option.none)
        else if fz then Option.none
        else if off+n*z.length=cells.length then some (.hs h.length 0 (n+m) false,h.set id .dead++[.arr false z.length (cells.drop off++news)])
        else if off+(n+m)*z.length≤cells.length then some (.hs id off (n+m) false,h.set id (.arr false z.length (kO cells (off+n*z.length) news)))
        else some (.hs h.length 0 (n+m) false,h.set id .dead++[.arr false z.length ((cells.drop off).take (n*z.length)++news)]))else Option.none
      |_=>Option.none
    |_=>Option.none
   |Option.none=>Option.none)else Option.none
  |_,_=>Option.none
 |Option.none=>Option.none
def nH(h:List AObj)(T:TypeId)(l c:AV):Option (AV×List AObj):=
 match fV P T,l,c with
 |some e,.i _ l,.i _ c=>match zeroOf P e,aCo P e with
  |some z,some by_=>if 0≤l∧l≤c∧c*by_≤140737488355328∧c≤140737488355328∧lP P e=some z.length∧0<z.length then
   some (.hs h.length 0 l.toNat false,h++[.arr false z.length (List.replicate l.toNat z).flatten])else Option.none
  |_,_=>Option.none
 |_,_,_=>Option.none
def jZ(h:List AObj)(b:Builtin)(tys:Array TypeId)(args:List AV):Option (AV×List AObj):=
 match b,tys.toList,args with
 | .len,[T],[x]=>match bAu P h T x with|some n=>some (.i .i64 n,h)|Option.none=>Option.none
 | .append,[T,U],[s,x]=>if T=U then iE P h T s x else Option.none
 | .copy,[T,_],[.hs id off n t,x]=>match P.underlying T with
   |some (.slice el)=>match lP P el,h[id]? with
    |some sz,some (.arr false s cells)=>match R0 h sz x with
     |some (win,m)=>if s=sz∧off+n*sz≤cells.length then some (.i .i64 (min m n:Nat),h.set id (.arr false s (kO cells off (win.take (min m n*sz)))))else Option.none
     |Option.none=>Option.none
    |_,_=>Option.none
   |_=>Option.none
 | .cap,[T],[.e0]=>match P.underlying T with|some (.slice _)=>some (.i .i64 0,h)|_=>Option.none
 | .max,_,[.i k x,.i k' y]=>if k=k' then some (.i k (if y>x then y else x),h)else Option.none
 | .min,_,[.i k x,.i k' y]=>if k=k' then some (.i k (if y<x then y else x),h)else Option.none
 | .max,_,[.i .i64 x,.i .i64 y,.i .i64 z,.i .i64 u]=>some (.i .i64 (if u>(if z>(if y>x then y else x)then z else(if y>x then y else x))then u else(if z>(if y>x then y else x)then z else(if y>x then y else x))),h)
 |_,_,_=>Option.none
def aop(env:List AV)(h:List AObj):Op→Option (AV×List AObj)
 | .move x| .assign x=>some (aev G env x,h)
 | .pick c a b=>match aev G env c with
   | .b t=>some (if t then aev G env a else aev G env b,h)
   |_=>Option.none
 | .alloc T=>match zeroOf P T with
   |some cells=>some (.ptr h.length 0,h++[.box false cells])
   |Option.none=>Option.none
 | .box _ x=>match kY (aev G env x)with
   |some cells=>some (.ptr h.length 0,h++[.box false cells])
   |Option.none=>Option.none
 | .build T parts=>match jP P T,zeroOf P T with
   |some pl,some z=>match nU (fun i=>pl[i]?) z (parts.toList.map fun(i,x)=>(i,aev G env x))with
    |some cells=>some (.agg cells,h)
    |Option.none=>Option.none
   |_,_=>Option.none
 | .buildSlice T len parts=>match fV P T with
   |some e=>match zeroOf P e with
    |some z=>if lP P e=some z.length∧0<z.length∧len*z.length≤65536 then
     (if len=0∧parts.toList=[]then some (.e0,h)else match nU (fun i=>some (i*z.length,z.length)) (List.replicate len z).flatten (parts.toList.map fun(i,x)=>(i,aev G env x))with
      |some cells=>some (.hs h.length 0 len false,h++[.arr false z.length cells])
      |Option.none=>Option.none)else Option.none
    |Option.none=>Option.none
   |Option.none=>Option.none
 | .load T a=>match zX P T h (aev G env a)with
   |some v=>some (v,h)
   |Option.none=>Option.none
 | .store T a x=>match uV P h T (aev G env a) (aev G env x)with
   |some h'=>some (.u,h')
   |Option.none=>Option.none
 | .nilCheck x=>match aev G env x with
   | .ptr id off=>match h[id]? with|some (.box ..)|some (.arr ..)|some (.held false _)=>some (.ptr id off,h)|_=>Option.none
   | .box cells off=>some (.box cells off,h)
   | .fn f a b=>some (.fn f a b,h)
   |_=>Option.none
 | .binOp op T x y _=>match bIf P op T (aev G env x) (aev G env y)with
   |some v=>some (v,h)
   |Option.none=>Option.none
 | .unOp op _ x=>match aUn op (aev G env x)with
   |some v=>some (v,h)
   |Option.none=>Option.none
 | .convert s d x=>match aKh P s d (aev G env x)with
   |some v=>some (v,h)
   |Option.none=>Option.none
 | .makeFunc (.func f) first capt=>some (.fn f (first.toList.map (aev G env)) (capt.toList.map (aev G env)),h)
 | .makeMap T Option.none=>some (.mp h.length,h++[.map false [] []])
 | .makeSlice T l c=>nH P h T (aev G env l) (aev G env c)
 | .slice T x l hi m=>match sY P h T (aev G env x) (l.map (aev G env)) (hi.map (aev G env)) (m.map (aev G env))with
   |some v=>some (v,h)
   |Option.none=>Option.none
 | .fieldAddr S x f=>match lV P S f with
   |some (fo,ft)=>match lP P ft with
    |some (_+1)=>match aev G env x with
     | .ptr id off=>match h[id]? with|some (.box ..)|some (.arr ..)|some (.held false _)=>some (.ptr id (off+fo),h)|_=>Option.none
     | .box cells off=>some (.box cells (off+fo),h)
     |_=>Option.none
    |_=>Option.none
   |Option.none=>Option.none
 | .field T x f=>match aev G env x,lV P T f with
   | .agg cs,some (fo,ft)=>match apart P ft cs fo with
     |some v=>some (v,h)
     |Option.none=>Option.none
   |_,_=>Option.none
 | .indexAddr T x i=>match kE P h T (aev G env x) (aev G env i)with
   |some v=>some (v,h)
   |Option.none=>Option.none
 | .index T x i=>match R9 P T (aev G env x) (aev G env i)with
   |some v=>some (v,h)
   |Option.none=>Option.none
 | .lookup T m k ok=>match pO P h T (aev G env m) (aev G env k) ok with
   |some v=>some (v,h)
   |Option.none=>Option.none
 | .mapUpdate T m k x=>match gP P h T (aev G env m) (aev G env k) (aev G env x)with
   |some h'=>some (.u,h')
   |Option.none=>Option.none
 | .extract t i=>match aev G env t with
   | .tup vs=>match vs[i]? with
     |some v=>some (v,h)
     |Option.none=>Option.none
   |_=>Option.none
 | .makeInterface T x=>match P.underlying T with
   |Option.none|some (.interface _)=>Option.none
   |some _=>match toV (aev G env x)with
    |some v=>some (.p (.iface T v),h)
    |Option.none=>Option.none
 | .call c=>match c.callee with
   | .builtin b=>jZ P h b c.argTypes (c.args.toList.map (aev G env))
   |_=>Option.none
 |_=>Option.none
end
def vG(G:Glob)(X:Ctx)(w:World)(h:List AObj)(run:Result Next)(x:AV)(h':List AObj):Prop:=
 ∃X' w' nx v,run=.ok nx w'∧(nx=.value v∨(nx=.skip∧v=undef))∧RV X' w' h' x v∧GH G X' w' h'∧Tr X w h X' w' h'
theorem vG.pure{G:Glob}{X:Ctx}{w:World}{h:List AObj}{run:Result Next}{x:AV}{v:Value}(g:GH G X w h)(e:run=.ok (.value v) w)(r:RV X w h x v):vG G X w h run x h:=
 ⟨X,w,_,v,e,.inl rfl,r,g,.refl _ _ _⟩
structure iD(w w':World)(o:Obj):Prop where
 heap:w'.heap=w.heap.push o
 os:w'.os=w.os
 tape:w'.tape=w.tape
 output:w'.output=w.output
structure J2(w w':World):Prop where
 old:∀b,b<w.heap.size→w'.heap[b]? = w.heap[b]?
 size:w.heap.size≤w'.heap.size
 os:w'.os=w.os
 tape:w'.tape=w.tape
 output:w'.output=w.output
theorem J2.refl(w:World):J2 w w:=⟨fun _ _=>rfl,bK _,rfl,rfl,rfl⟩
theorem iD.alloc(w:World)(o:Obj):iD w (w.alloc o) o:=⟨rfl,rfl,rfl,rfl⟩
theorem iD.drew(w:World)(o:Obj):iD w (w.drew.alloc o) o:=⟨rfl,rfl,rfl,rfl⟩
theorem iD.old{w w':World}{o:Obj}(p:iD w w' o){b:Nat}(hb:b<w.heap.size):w'.heap[b]? = w.heap[b]? := by
 rw[p.heap,eN,if_neg (Nat.ne_of_lt hb)]
theorem iD.at{w w':World}{o:Obj}(p:iD w w' o):w'.heap[w.heap.size]? = some o:=by rw[p.heap];simp
theorem iD.size{w w':World}{o:Obj}(p:iD w w' o):w'.heap.size=w.heap.size+1:=by rw[p.heap];simp
theorem lt_of_block{w:World}{b:Nat}{o:Obj}(h:w.heap[b]? = some o):b<w.heap.size:=by
 rcases lK b w.heap.size with g|g
 ·exact g
 ·rw[aHf g]at h;cases h
theorem rT{w:World}{b:Nat}{s:TypeId×Nat}(h:w.shape? b=some s):b<w.heap.size:=by
 rcases lK b w.heap.size with g|g
 ·exact g
 ·simp[World.shape?,aHf g]at h
theorem nL{w w':World}{b:Nat}(h:w'.heap[b]? = w.heap[b]?):w'.shape? b=w.shape? b:=by simp[World.shape?,h]
theorem iD.grew{w w':World}{o:Obj}(p:iD w w' o):J2 w w':=⟨fun b hb=>p.old hb,by have:=p.size;omega,p.os,p.tape,p.output⟩
def Ctx.upd(X:Ctx)(id:Nat)(bo:Option (Nat×Nat)):Ctx:=⟨X.F,fun j=>if j=id then bo else X.ι j⟩
@[simp] theorem Ctx.upd_F(X:Ctx)(id:Nat)(bo:Option (Nat×Nat)):(X.upd id bo).F=X.F:=rfl
@[simp] theorem Ctx.upd_same(X:Ctx)(id:Nat)(bo:Option (Nat×Nat)):(X.upd id bo).ι id=bo:=by simp[Ctx.upd]
theorem Ctx.upd_other(X:Ctx){id j:Nat}(bo:Option (Nat×Nat))(h:j≠id):(X.upd id bo).ι j=X.ι j:=by simp[Ctx.upd,h]
theorem bP{α:Type}{l:List α}{j:Nat}{a:α}(h:l[j]? = some a):j<l.length:=by
 rcases lK j l.length with g|g
 ·exact g
 ·rw[iQ g]at h;cases h
section alloc
variable {G:Glob} {X:Ctx} {w w':World} {h:List AObj} {o:Obj}
theorem ι_none(g:GH G X w h){id:Nat}(hid:h.length≤id):X.ι id=Option.none:=by
 cases hb:X.ι id with
 |none=>rfl
 |some bo=>
  obtain⟨ob,hob⟩:=g.dom _ _ hb;have:=bP hob;omega
theorem rG(g:GH G X w h)(p:J2 w w')(ob:AObj)(bo:Option (Nat×Nat)):Ext X w h (X.upd h.length bo) w' (h++[ob]):=by
 refine⟨fun b hb=>hb,fun b hb=>p.old _ (g.fbnd b hb),fun b s hs=>?_,fun id o ho=>?_⟩
 ·rw[nL (p.old _ (rT hs))];exact hs
 ·have hlt:=bP ho;exact⟨o,by rw[aG hlt];exact ho,.inr ⟨AObj.like_refl _,.inl (Ctx.upd_other _ _ (by omega))⟩⟩
theorem bFq(g:GH G X w h)(p:J2 w w'):GH G X w' h∧Tr X w h X w' h:=by
 have e:Ext X w h X w' h:=⟨fun _ f=>f,fun b hb=>p.old _ (g.fbnd b hb),fun b s hs=>by rw[nL (p.old _ (rT hs))];exact hs,fun id o ho=>⟨o,ho,.inr ⟨AObj.like_refl _,.inl rfl⟩⟩⟩;refine⟨⟨fun id ob hob=>(g.objs id ob hob).mono e rfl (fun b o hb=>p.old _ (g.bnd _ _ _ hb)) (fun _ _ _ f=>f),g.dom,g.inj,fun id b o hb=>fS (g.bnd id b o hb) p.size,fun b hb=>fS (g.fbnd b hb) p.size,fun k a hk=>(g.gl k a hk).mono e⟩,?_⟩;exact⟨⟨p.size,p.os,p.tape,p.output,fun b hb _=>p.old _ hb,fun id b o hb=>.inr ⟨id,o,hb⟩,fun b hb=>.inl hb⟩,e,fun id z hid _=>hid⟩
theorem aBb(g:GH G X w h)(p:J2 w w')(ob:AObj)(bo:Option (Nat×Nat))(hbo:∀b c,bo=some (b,c)→w.heap.size≤b∧b<w'.heap.size)
 (hob:ObjOK (X.upd h.length bo) w' (h++[ob]) h.length ob):GH G (X.upd h.length bo) w' (h++[ob])∧Tr X w h (X.upd h.length bo) w' (h++[ob]):=by
 have e:=rG g p ob bo;have hs:=p.size;refine⟨⟨?_,?_,?_,?_,?_,fun k a hk=>(g.gl k a hk).mono e⟩,⟨?_,e,fun id z hid _=>by rw[aG (bP hid)];exact hid⟩⟩
 ·intro id ob' hid;by_cases hlt:id<h.length
  ·rw[aG hlt]at hid;exact(g.objs id ob' hid).mono e (Ctx.upd_other _ _ (by omega)) (fun b o hb=>p.old _ (g.bnd _ _ _ hb)) (fun _ _ _ f=>f)
  ·have hl:=bP hid;simp at hl;obtain rfl:id=h.length:=by omega
   simp at hid;exact hid▸hob
 ·intro id b hb;by_cases hid:id=h.length
  ·subst hid;exact⟨ob,by simp⟩
  ·rw[Ctx.upd_other _ _ hid]at hb;obtain⟨ob',ho⟩:=g.dom _ _ hb;exact⟨ob',by rw[aG (bP ho)];exact ho⟩
 ·intro id id' b c c' h1 h2;by_cases e1:id=h.length
  ·by_cases e2:id'=h.length
   ·omega
   ·subst e1;rw[Ctx.upd_same]at h1;rw[Ctx.upd_other _ _ e2]at h2;have:=g.bnd _ _ _ h2;have:=hbo _ _ h1;omega
  ·rw[Ctx.upd_other _ _ e1]at h1;by_cases e2:id'=h.length
   ·subst e2;rw[Ctx.upd_same]at h2;have:=g.bnd _ _ _ h1;have:=hbo _ _ h2;omega
   ·rw[Ctx.upd_other _ _ e2]at h2;exact g.inj _ _ _ _ _ h1 h2
 ·intro id b c h1;by_cases e1:id=h.length
  ·subst e1;rw[Ctx.upd_same]at h1;exact(hbo _ _ h1).2
  ·rw[Ctx.upd_other _ _ e1]at h1;have:=g.bnd _ _ _ h1;omega
 ·intro b hb;have:=g.fbnd b hb;omega
 ·refine⟨hs,p.os,p.tape,p.output,fun b hb _=>p.old _ hb,?_,fun b hb=>.inl hb⟩;intro id b c h1;by_cases e1:id=h.length
  ·subst e1;rw[Ctx.upd_same]at h1;exact .inl (hbo _ _ h1).1
  ·rw[Ctx.upd_other _ _ e1]at h1;exact .inr ⟨_,_,h1⟩
theorem qP(g:GH G X w h)(p:iD w w' o)(ob:AObj)(hob:ObjOK (X.upd h.length (some (w.heap.size,0))) w' (h++[ob]) h.length ob) :
 GH G (X.upd h.length (some (w.heap.size,0))) w' (h++[ob])∧Tr X w h (X.upd h.length (some (w.heap.size,0))) w' (h++[ob]):=
 aBb g p.grew ob _ (fun b c e=>by have:=p.size;simp only[aB,bH]at e;omega) hob
theorem nB(g:GH G X w h){cs:Array Value}{T:TypeId}(p:iD w w' (.cells cs T (0,0)))(cells:List AV)(hl:cells.length≤cs.size)
 (h1:∀(j:Nat) (v:Value),j<cells.length→cs[j]? = some v→v.oneCell'=true) (hr:∀(j:Nat) (a:AV) (v:Value),cells[j]? = some a→cs[j]? = some v→RV X w h a v) :
 ObjOK (X.upd h.length (some (w.heap.size,0))) w' (h++[.box false cells]) h.length (.box false cells) ∧
 (kF cs→∀sz,ObjOK (X.upd h.length (some (w.heap.size,0))) w' (h++[.arr false sz cells]) h.length (.arr false sz cells)):=by
 have hnF:¬X.F w.heap.size:=fun f=>by have:=g.fbnd _ f;omega
 constructor
 ·have e:=rG g p.grew (.box false cells) (some (w.heap.size,0));exact .box (Ctx.upd_same _ _ _) p.at (fun f=>by cases f) (fun _=>⟨hnF,rfl⟩) (by omega) (by simpa using h1) (fun j a v ha hv=>(hr j a v ha (by simpa using hv)).mono e)
 ·intro hc1 sz;have e:=rG g p.grew (.arr false sz cells) (some (w.heap.size,0));exact .arr (Ctx.upd_same _ _ _) p.at (fun f=>by cases f) (fun _=>⟨hnF,rfl⟩) (by omega) (by simpa using h1) (fun j a v ha hv=>(hr j a v ha (by simpa using hv)).mono e) hc1
end alloc
theorem RV.cells{X:Ctx}{w:World}{h:List AObj}{a:AV}{v:Value}{cs:List AV}(r:RV X w h a v)(e:kY a=some cs) :
 v.cells.size=cs.length∧kF v.cells∧∀(j:Nat) (x:AV) (u:Value),cs[j]? = some x→v.cells[j]? = some u→RV X w h x u:=by
 have single:a.one=true→cs=[a]→v.cells.size=cs.length∧kF v.cells∧∀(j:Nat) (x:AV) (u:Value),cs[j]? = some x→v.cells[j]? = some u→RV X w h x u:=by
  rintro ho rfl;have h1:=r.oneCell ho;have hc:v.cells = #[v]:=by cases v<;>simp[Value.oneCell']at h1<;>rfl
  rw[hc];refine⟨rfl,?_,?_⟩
  ·intro j u hu;cases j with
   |zero=>simp at hu;exact hu▸h1
   |succ j=>simp at hu
  ·intro j x u hx hu;cases j with
   |zero=>simp at hx hu;exact hx▸hu▸r
   |succ j=>simp at hu
 cases r with
 |agg hl h1 hr=>simp only[kY,aB]at e;subst e;exact⟨hl.symm,h1,hr⟩
 |dead hr hid hv=>
  rename_i id;have ho:a.one=true:=by cases a<;>simp[AV.refs]at hr<;>rfl
  refine single ho ?_;cases a<;>simp[AV.refs]at hr<;>simp[kY,AV.one]at e<;>exact e.symm
 |_=>first
  |(simp[kY,AV.one]at e;done)
  |exact single rfl (by simp[kY,AV.one]at e;exact e.symm)
theorem kS{X:Ctx}{w:World}{h:List AObj}{z:Value}{cs:List AV}(e:U8 z=some cs) :
 z.cells.size=cs.length∧kF z.cells∧∀(j:Nat) (x:AV) (u:Value),cs[j]? = some x→z.cells[j]? = some u→RV X w h x u:=by
 simp only[U8,dB,aB]at e;obtain⟨ha,rfl⟩:=e;refine⟨by simp,?_,?_⟩
 ·intro j v hv;have hm:v∈z.cells.toList:=by rw[cW];exact⟨j,by simpa using hv⟩
  exact(bF.1 ha) v hm
 ·intro j x u hx hu;simp only[eV]at hx;have:z.cells.toList[j]? = some u:=by simpa using hu
  rw[this]at hx;simp at hx;exact hx▸aBy u
section
variable {P:Program} {G:Glob} {X:Ctx} {w:World} {h:List AObj}
theorem rU{T:TypeId}{i:TypeInfo}{z:Value}(hi:P.info? T=some i)(hz:i.zero=some z)(w:World):(zeroValue T).run P w=.ok z w:=by
 simp[zeroValue,typeInfo,hi,hz]
theorem gL{T:TypeId}{n:Nat}(hs:lP P T=some n)(w:World):(sizeOf T).run P w=.ok n w:=by
 unfold lP at hs;cases hi:P.info? T with
 |none=>simp[hi]at hs
 |some i=>simp[hi]at hs;simp[sizeOf,typeInfo,hi,hs]
theorem vM{T:TypeId}{b:Bool}(hs:iM P T=some b)(w:World):(isAgg T).run P w=.ok b w:=by
 unfold iM at hs;cases hi:P.underlying T with
 |none=>simp[hi]at hs
 |some d=>
  simp only[hi,dO,aB]at hs;subst hs;simp only[isAgg,cD,run_underlying hi,bO];cases d<;>rfl
theorem aUv{T:TypeId}{cells:List AV}{cs:Array Value}{off o:Nat}{x:AV}(e:apart P T cells off=some x)(hl:o+cells.length≤cs.size)
 (h1:∀(j:Nat) (v:Value),j<cells.length→cs[o+j]? = some v→v.oneCell'=true) (hr:∀(j:Nat) (a:AV) (v:Value),cells[j]? = some a→cs[o+j]? = some v→RV X w h a v) :
 (∃n,iM P T=some true∧lP P T=some n∧off+n≤cells.length∧RV X w h x (.agg (cs.extract (o+off) (o+off+n)))) ∨
 (∃v,iM P T=some false∧off<cells.length∧cs[o+off]? = some v∧RV X w h x v):=by
 unfold apart at e;cases ha:iM P T with
 |none=>simp[ha]at e
 |some b=>
  cases b with
  |false=>
   simp only[ha]at e;have hlt:=bP e;have hlt':o+off<cs.size:=by omega
   exact .inr ⟨cs[o+off],rfl,hlt,by simp[hlt'],hr off x _ e (by simp[hlt'])⟩
  |true=>
   simp only[ha]at e;cases hs:lP P T with
   |none=>simp[hs]at e
   |some n=>
    simp only[hs]at e;split at e
    ·rename_i hle;simp only[aB]at e;subst e;refine .inl ⟨n,rfl,rfl,hle,.agg ?_ ?_ ?_⟩
     ·simp;omega
     ·intro j v hv;rw[jK]at hv;split at hv
      ·exact h1 (off+j) v (by omega) (by rw[← eK];exact hv)
      ·cases hv
     ·intro j a v ha hv;rw[jK]at hv;split at hv
      ·rename_i hj;rw[dY,eL]at ha;split at ha
       ·exact hr (off+j) a v ha (by rw[← eK];exact hv)
       ·cases ha
      ·cases hv
    ·cases e
theorem aLi{T:TypeId}{cells:List AV}{cs:Array Value}{off:Nat}{x:AV}(e:apart P T cells off=some x)(hl:cells.length=cs.size)
 (h1:kF cs) (hr:∀(j:Nat) (a:AV) (v:Value),cells[j]? = some a→cs[j]? = some v→RV X w h a v) :
 ∃v,(part T cs off).run P w=.ok v w∧RV X w h x v:=by
 rcases aUv (X:=X) (w:=w) (h:=h) (o:=0) (cs:=cs) e (by omega) (by simpa using fun j v _ hv=>h1 j v hv) (by simpa using hr)with⟨n,ha,hs,hle,r⟩|⟨v,ha,hlt,hv,r⟩
 ·refine⟨_,?_,r⟩;simp[part,vM ha,gL hs]
 ·refine⟨v,?_,r⟩;simp only[dM]at hv;simp[part,vM ha,hv]
theorem add_lit(b o k:Nat):(⟨b,o,Option.none⟩:Addr).add k=⟨b,o+k,Option.none⟩:=by unfold Addr.add;split<;>simp_all
theorem aHu{T:TypeId}{cells:List AV}{b o off:Nat}{cs:Array Value}{Tb:TypeId}{fr:Nat×Nat}{x:AV}(e:apart P T cells off=some x)(hb:w.heap[b]? = some (.cells cs Tb fr))
 (hl:o+cells.length≤cs.size)
 (h1:∀(j:Nat) (v:Value),j<cells.length→cs[o+j]? = some v→v.oneCell'=true) (hr:∀(j:Nat) (a:AV) (v:Value),cells[j]? = some a→cs[o+j]? = some v→RV X w h a v) :
 ∃v,(loadVar T ⟨b,o+off,Option.none⟩).run P w=.ok v w∧RV X w h x v:=by
 rcases aUv (X:=X) (w:=w) (h:=h) e hl h1 hr with⟨n,ha,hs,hle,r⟩|⟨v,ha,hlt,hv,r⟩
 ·refine⟨_,?_,r⟩;have hx:((cs.extract (o+off) (o+off+n)).toList).length=n:=by simp;omega
  have hld:=run_loadCells_list (P:=P) w ⟨b,o+off,Option.none⟩ (cs.extract (o+off) (o+off+n)).toList (fun j v hv=>by
   rw[add_lit,cell_of_row w b _ cs Tb fr hb];have hv':(cs.extract (o+off) (o+off+n))[j]? = some v:=by rw[← iR];exact hv
   rw[jK]at hv';split at hv'
   ·exact hv'
   ·cases hv')
  rw[hx,jC]at hld;simp only[loadVar,cD,vM ha,gL hs,hld,bO,if_true,eE]
 ·refine⟨v,?_,r⟩;simp[loadVar,vM ha,cell_of_row w b _ cs Tb fr hb,hv]
theorem bAl{a:AV}{v:Value}{cells:List AV}{off:Nat}(g:GH G X w h)(r:RV X w h a v)(e:aOm h a=some (cells,off)) :
 ∃b o cs T fr,v=.pointer (some ⟨b,o+off,Option.none⟩)∧w.heap[b]? = some (.cells cs T fr)∧o+cells.length≤cs.size ∧
  (∀(j:Nat) (v:Value),j<cells.length→cs[o+j]? = some v→v.oneCell'=true)∧(∀(j:Nat) (a:AV) (v:Value),cells[j]? = some a→cs[o+j]? = some v→RV X w h a v):=by
 cases r with
 |ptr hid hnd hι=>
  rename_i id off' ob b o;simp only[aOm,hid]at e;have ok:=g.objs _ _ hid;cases ok with
  |box h0 h1 h2 h3 h4 h5 h6=>
   simp only[aB,bH]at e;obtain⟨rfl,rfl⟩:=e;rw[h0]at hι;simp only[aB,bH]at hι;obtain⟨rfl,rfl⟩:=hι;exact⟨_,_,_,_,_,rfl,h1,h4,h5,h6⟩
  |arr h0 h1 h2 h3 h4 h5 h6=>
   simp only[aB,bH]at e;obtain⟨rfl,rfl⟩:=e;rw[h0]at hι;simp only[aB,bH]at hι;obtain⟨rfl,rfl⟩:=hι;exact⟨_,_,_,_,_,rfl,h1,h4,h5,h6⟩
  |absent h0=>rw[h0]at hι;cases hι
  |_=>simp at e
 |box hF hb hl h1 hr=>
  simp only[aOm,aB,bH]at e;obtain⟨rfl,rfl⟩:=e;exact⟨_,_,_,_,_,rfl,hb,hl,h1,hr⟩
 |dead hr hid hv=>
  cases a<;>simp[AV.refs]at hr<;>subst hr<;>simp[aOm,hid]at e
 |_=>simp[aOm]at e
theorem aWf{T:TypeId}{a x:AV}{v:Value}(g:GH G X w h)(r:RV X w h a v)(e:zX P T h a=some x) :
 ∃u,(Instr.loadAt T v).run P w=.ok u w∧RV X w h x u:=by
 unfold zX at e;cases ho:aOm h a with
 |none=>simp[ho]at e
 |some q=>
  obtain⟨cells,off⟩:=q;simp only[ho]at e;obtain⟨b,o,cs,Tb,fr,rfl,hb,hl,h1,hr⟩:=bAl g r ho;obtain⟨u,hu,r'⟩:=aHu (X:=X) (h:=h) e hb hl h1 hr;exact⟨u,by simp[Instr.loadAt,Instr.sureAddr,hu],r'⟩
end
section store
variable {G:Glob} {X:Ctx} {w w':World} {h:List AObj}
theorem sC(g:GH G X w h){id b o:Nat}{ob ob':AObj}(hid:h[id]? = some ob)(hι:X.ι id=some (b,o))(hF:¬X.F b)(hlike:ob.like ob')
 (hs:w'.heap.size=w.heap.size) (hos:w'.os=w.os) (htape:w'.tape=w.tape) (hout:w'.output=w.output) (hother:∀k,k≠b→w'.heap[k]? = w.heap[k]?)
 (hshp:∀s,w.shape? b=some s→w'.shape? b=some s)
 (hob:Ext X w h X w' (h.set id ob')→ObjOK X w' (h.set id ob') id ob'):GH G X w' (h.set id ob')∧Tr X w h X w' (h.set id ob'):=by
 have hlt:=bP hid;have e:Ext X w h X w' (h.set id ob'):=by
  refine⟨fun b hb=>hb,fun k hk=>hother k (fun e=>hF (e▸hk)),fun k s hk=>?_,fun j oj hj=>?_⟩
  ·by_cases hkb:k=b
   ·subst hkb;exact hshp s hk
   ·rw[nL (hother k hkb)];exact hk
  ·by_cases hjd:j=id
   ·subst hjd;rw[hid]at hj;cases hj;exact⟨ob',by simp[hlt],.inr ⟨hlike,.inl rfl⟩⟩
   ·exact⟨oj,by rw[dW (D0 hjd)];exact hj,.inr ⟨AObj.like_refl _,.inl rfl⟩⟩
 refine⟨⟨?_,?_,g.inj,?_,?_,fun k a hk=>(g.gl k a hk).mono e⟩,⟨⟨by omega,hos,htape,hout,?_,fun id b o hb=>.inr ⟨id,o,hb⟩,fun b hb=>.inl hb⟩,e,fun j z hj hjι=>by
  by_cases hjd:j=id
  ·subst hjd;rw[hι]at hjι;cases hjι
  ·rw[dW (D0 hjd)];exact hj⟩⟩
 ·intro j oj hj;by_cases hjd:j=id
  ·subst hjd;simp[hlt]at hj;exact hj▸hob e
  ·rw[dW (D0 hjd)]at hj;refine(g.objs j oj hj).mono e rfl (fun b' o' hb'=>hother b' ?_) (fun _ _ _ f=>f);rintro rfl;exact hjd (g.inj _ _ _ _ _ hb' hι)
 ·intro j bo hb;obtain⟨oj,hj⟩:=g.dom j bo hb;by_cases hjd:j=id
  ·subst hjd;exact⟨ob',by simp[hlt]⟩
  ·exact⟨oj,by rw[dW (D0 hjd)];exact hj⟩
 ·intro j b' o' hb;rw[hs];exact g.bnd _ _ _ hb
 ·intro b' hb;rw[hs];exact g.fbnd _ hb
 ·intro k hk hno;exact hother k (fun e=>hno id o (e▸hι))
theorem iX(cells:List AV)(off:Nat)(cs:List AV)(hl:off+cs.length≤cells.length):(kO cells off cs).length=cells.length:=by
 simp[kO];omega
theorem aPk(cells:List AV)(off:Nat)(cs:List AV)(hl:off+cs.length≤cells.length)(j:Nat) :
 (kO cells off cs)[j]? = if j<off then cells[j]? else if j<off+cs.length then cs[j-off]? else cells[j]? := by
 simp only[kO,bU];by_cases h1:j<off
 ·rw[aG (by simp;omega),if_pos h1,dY,if_pos h1]
 ·rw[aR (by simp;omega),if_neg h1];have ht:(List.take off cells).length=off:=by simp;omega
  rw[ht];by_cases h2:j<off+cs.length
  ·rw[if_pos h2,aG (by omega)]
  ·rw[if_neg h2,aR (by omega),eL];congr 1;omega
theorem rP(cur:Array Value)(o:Nat)(vs:List Value)(hl:o+vs.length≤cur.size)(j:Nat) :
 ((cur.toList.take o++vs++cur.toList.drop (o+vs.length)).toArray)[j]? = if j<o then cur[j]? else if j<o+vs.length then vs[j-o]? else cur[j]? := by
 simp only[cR,bU];by_cases h1:j<o
 ·rw[aG (by simp;omega),if_pos h1,dY,if_pos h1];simp
 ·rw[aR (by simp;omega),if_neg h1];have ht:(List.take o cur.toList).length=o:=by simp;omega
  rw[ht];by_cases h2:j<o+vs.length
  ·rw[if_pos h2,aG (by omega)]
  ·rw[if_neg h2,aR (by omega),eL,iR];congr 1;omega
theorem uA{cells cs:List AV}{cur:Array Value}{vs:List Value}{o off:Nat}(hl:o+cells.length≤cur.size)(hle:off+cs.length≤cells.length)(hv:vs.length=cs.length){Q:AV→Value→Prop}
 (hr:∀(j:Nat) (a:AV) (v:Value),cells[j]? = some a→cur[o+j]? = some v→Q a v) (hn:∀(j:Nat) (a:AV) (v:Value),cs[j]? = some a→vs[j]? = some v→Q a v) :
 ∀(j:Nat) (a:AV) (v:Value),(kO cells off cs)[j]? = some a→((cur.toList.take (o+off)++vs++cur.toList.drop (o+off+vs.length)).toArray)[o+j]? = some v→Q a v:=by
 intro j a v ha hv';rw[aPk _ _ _ hle]at ha;rw[rP cur (o+off) vs (by omega)]at hv';by_cases h1:j<off
 ·rw[if_pos h1]at ha;rw[if_pos (by omega)]at hv';exact hr _ _ _ ha hv'
 ·rw[if_neg h1]at ha;rw[if_neg (by omega)]at hv';by_cases h2:j<off+cs.length
  ·rw[if_pos h2]at ha;rw[if_pos (by omega)]at hv';exact hn _ _ _ ha (by rw[← hv'];congr 1;omega)
  ·rw[if_neg h2]at ha;rw[if_neg (by omega)]at hv';exact hr _ _ _ ha hv'
theorem qT{cells:List AV}{cur:Array Value}{vs:List Value}{o off:Nat}(hl:o+cells.length≤cur.size)(hle:off+vs.length≤cells.length)
 (hr:∀(j:Nat) (v:Value),j<cells.length→cur[o+j]? = some v→v.oneCell'=true) (hn:∀v∈vs,v.oneCell'=true) :
 ∀(j:Nat) (v:Value),j<cells.length→((cur.toList.take (o+off)++vs++cur.toList.drop (o+off+vs.length)).toArray)[o+j]? = some v→v.oneCell'=true:=by
 intro j v hj hv';rw[rP cur (o+off) vs (by omega)]at hv';by_cases h1:j<off
 ·rw[if_pos (by omega)]at hv';exact hr _ _ hj hv'
 ·rw[if_neg (by omega)]at hv';by_cases h2:j<off+vs.length
  ·rw[if_pos (by omega)]at hv';exact hn v (eD hv')
  ·rw[if_neg (by omega)]at hv';exact hr _ _ hj hv'
theorem yN{cs:Array Value}(h:kF cs):∀v∈cs.toList,v.oneCell'=true:=by
 intro v hv;rw[cW]at hv;obtain⟨j,hj⟩:=hv;exact h j v (by simpa using hj)
theorem yF{cur:Array Value}{vs:List Value}{k n:Nat}(h1:kF cur)(h2:∀v∈vs,v.oneCell'=true):kF (cur.toList.take k++vs++cur.toList.drop n).toArray:=by
 have m:∀v∈cur.toList,v.oneCell'=true:=fun v hv=>by
  obtain⟨j,hj⟩:=cW.1 hv;exact h1 j v (by simpa using hj)
 intro j v hv;have hv:v∈cur.toList.take k++vs++cur.toList.drop n:=eD (by simpa using hv);rcases bM.1 hv with hv|hv
 ·rcases bM.1 hv with hv|hv
  ·exact m v (dH hv)
  ·exact h2 v hv
 ·exact m v (fL hv)
theorem pZ{w:World}{b:Nat}{cur cs:Array Value}{T:TypeId}{fr:Nat×Nat}(hb:w.heap[b]? = some (.cells cur T fr))(hs:cs.size=cur.size)(s:TypeId×Nat)(hsh:w.shape? b=some s) :
 (w.setRow b cs).shape? b=some s:=by
 simp only[World.shape?,hb]at hsh;simp only[World.shape?,setRow_heap w b cur cs T fr hb,hs];exact hsh
theorem aLb{P : Program}{T:TypeId}{a x:AV}{v u:Value}{h':List AObj}(g:GH G X w h)(ra:RV X w h a v)(rx:RV X w h x u)(e:uV P h T a x=some h') :
 ∃w',(Instr.storeAt T v u).run P w=.ok () w'∧GH G X w' h'∧Tr X w h X w' h':=by
 unfold uV at e;cases a with
 |ptr id off=>
  cases hc:kY x with
  |none=>simp[hc]at e
  |some cs =>
   cases hs:lP P T with
   |none=>simp[hc,hs]at e
   |some n=>
    simp only[hc,hs]at e;obtain⟨hsz,h1c,hrc⟩:=rx.cells hc;cases hid:h[id]? with
    |none=>simp[hid]at e
    |some ob =>
     simp only[hid]at e;cases ra with
     |dead hr hd hv=>simp[AV.refs]at hr;subst hr;rw[hid]at hd;cases hd;simp at e
     | @ptr _ _ ob' b o hid' hnd hι=>
       rw[hid]at hid';cases hid';have ok:=g.objs _ _ hid;have fin:∀(cells:List AV) (cur:Array Value) (Tb:TypeId) (ob':AObj),w.heap[b]? = some (.cells cur Tb (0,0))→¬X.F b→o+cells.length≤cur.size→cs.length=n→off+cs.length≤cells.length→ob.like ob' →
        (∀w',Ext X w h X w' (h.set id ob')→w'.heap[b]? = some (.cells (cur.toList.take (o+off)++u.cells.toList++cur.toList.drop (o+off+u.cells.toList.length)).toArray Tb (0,0))→ObjOK X w' (h.set id ob') id ob') →
        ∃w',(Instr.storeAt T (.pointer (some ⟨b,o+off,Option.none⟩)) u).run P w=.ok () w'∧GH G X w' (h.set id ob')∧Tr X w h X w' (h.set id ob'):=by
        intro cells cur Tb ob' hb hF hle hn hoff hlike hob;have hst:=run_storeCells_at P b (o+off) Tb u.cells.toList 0 cur w hb (by simp;omega) (yN h1c);simp only[Nat.add_zero]at hst;refine⟨w.setRow b (cur.toList.take (o+off)++u.cells.toList++cur.toList.drop (o+off+u.cells.toList.length)).toArray,?_,?_⟩
        ·have hne:¬(u.cells.size≠n):=by omega
         simp only[Instr.storeAt,Instr.sureAddr,storeVar,cD,eE,bO,gL hs,Sem.run_ite,hne,if_false,hst]
        ·refine sC g hid hι hF hlike (by simp) rfl rfl rfl (fun k hk=>setRow_other w b k _ hk) (fun s hs=>pZ hb ?_ s hs) (fun e=>hob _ e (setRow_heap w b cur _ Tb _ hb));simp;omega
       cases ok with
       | @box fz cells b' o' cur Tb fr h0 hb hf1 hf2 hle h1 hr=>
         rw[hι]at h0;simp only[aB,bH]at h0;obtain⟨rfl,rfl⟩:=h0;cases fz with
         |true=>simp at e
         |false=>
          simp only[dB,aB]at e;obtain⟨⟨hn,hoff⟩,rfl⟩:=e;obtain⟨hF,rfl⟩:=hf2 rfl;refine fin cells cur Tb _ hb hF hle hn hoff (by simp[AObj.like,iX _ _ _ hoff]) ?_;intro w' ee hw;refine .box hι hw (fun f=>by cases f) (fun _=>⟨hF,rfl⟩) ?_ ?_ ?_
          ·rw[iX _ _ _ hoff];simp;omega
          ·rw[iX _ _ _ hoff];exact qT hle (by simp;omega) h1 (yN h1c)
          ·refine uA hle hoff (by simp;omega) (fun j a v ha hv=>(hr j a v ha hv).mono ee) (fun j a v ha hv=>(hrc j a v ha (by simpa using hv)).mono ee)
       | @arr fz sz cells b' o' cur Tb fr h0 hb hf1 hf2 hle h1 hr hc1=>
         rw[hι]at h0;simp only[aB,bH]at h0;obtain⟨rfl,rfl⟩:=h0;cases fz with
         |true=>simp at e
         |false=>
          simp only[dB,aB]at e;obtain⟨⟨hn,hoff⟩,rfl⟩:=e;obtain⟨hF,rfl⟩:=hf2 rfl;refine fin cells cur Tb _ hb hF hle hn hoff (by simp[AObj.like,iX _ _ _ hoff]) ?_;intro w' ee hw;refine .arr hι hw (fun f=>by cases f) (fun _=>⟨hF,rfl⟩) ?_ ?_ ?_ (yF hc1 (yN h1c))
          ·rw[iX _ _ _ hoff];simp;omega
          ·rw[iX _ _ _ hoff];exact qT hle (by simp;omega) h1 (yN h1c)
          ·refine uA hle hoff (by simp;omega) (fun j a v ha hv=>(hr j a v ha hv).mono ee) (fun j a v ha hv=>(hrc j a v ha (by simpa using hv)).mono ee)
       |absent h0=>rw[hι]at h0;cases h0
       |_=>simp at e
 |_=>simp at e
end store
section
variable {P:Program} {G:Glob} {X:Ctx} {w:World} {h:List AObj}
theorem aOa{sz m:Nat}{x:AV}{v:Value}{news:List AV}(g:GH G X w h)(r:RV X w h x v)(e:R0 h sz x=some (news,m)) :
 ∃a c,∃vs:List Value,v=.slice a m c∧news.length=m*sz∧vs.length=m*sz∧(∀u∈vs,u.oneCell'=true) ∧
  (∀(j:Nat) (y:AV) (u:Value),news[j]? = some y→vs[j]? = some u→RV X w h y u) ∧
  (∀k,k≤m→∀w1:World,w1.heap=w.heap→(Builtin.firstCells sz k v).run P w1=.ok (vs.take (k*sz)).toArray w1):=by
 have window:∀(b o c:Nat) (cs:Array Value) (T:TypeId) (fr:Nat×Nat) (cells:List AV),w.heap[b]? = some (.cells cs T fr)→cells.length=m*sz→o+cells.length≤cs.size →
  (∀(j:Nat) (v:Value),j<cells.length→cs[o+j]? = some v→v.oneCell'=true)→(∀(j:Nat) (a:AV) (v:Value),cells[j]? = some a→cs[o+j]? = some v→RV X w h a v) →
  ∃a c',∃vs:List Value,Value.slice (some ⟨b,o,Option.none⟩) m c=.slice a m c'∧cells.length=m*sz∧vs.length=m*sz∧(∀u∈vs,u.oneCell'=true) ∧
  (∀(j:Nat) (y:AV) (u:Value),cells[j]? = some y→vs[j]? = some u→RV X w h y u) ∧
  (∀k,k≤m→∀w1:World,w1.heap=w.heap→(Builtin.firstCells sz k (.slice (some ⟨b,o,Option.none⟩) m c)).run P w1=.ok (vs.take (k*sz)).toArray w1):=by
  intro b o c cs T fr cells hb hl hle h1 hr;have hget:∀(j:Nat) (u:Value),(cs.extract o (o+cells.length)).toList[j]? = some u→j<cells.length∧cs[o+j]? = some u:=by
   intro j u hu;rw[iR,jK]at hu;split at hu
   ·exact⟨by omega,hu⟩
   ·cases hu
  refine⟨_,c,(cs.extract o (o+cells.length)).toList,rfl,hl,by simp;omega,?_,?_,?_⟩
  ·intro u hu;rw[cW]at hu;obtain⟨j,hj⟩:=hu;obtain⟨h3,h4⟩:=hget j u hj;exact h1 j u h3 h4
  ·intro j y u hy hu;exact hr j y u hy (hget j u hu).2
  ·intro k hk w1 hw1;have hb1:w1.heap[b]? = some (.cells cs T fr):=by rw[hw1];exact hb
   have hkm:=cN sz hk;refine run_firstCells_some w1 sz k _ m c _ (by rw[List.length_take,Array.length_toList,Array.size_extract];omega) ?_;intro j u hu;rw[add_lit,cell_of_row w1 b _ cs T fr hb1];rw[dY]at hu;split at hu
   ·exact(hget j u hu).2
   ·cases hu
 cases r with
 |e0 a=>
  simp only[R0,aB,bH]at e;obtain⟨rfl,rfl⟩:=e;refine⟨a,0,[],rfl,by simp,by simp,by simp,by simp,?_⟩;intro k hk w1 _;obtain rfl:k=0:=by omega
  cases a<;>simp[Builtin.firstCells,loadCells,loadCellsFrom]
 |sl0 a cap=>
  simp only[R0,dB,aB,bH]at e;obtain⟨_,rfl,rfl⟩:=e;refine⟨a,cap,[],rfl,by simp,by simp,by simp,by simp,?_⟩;intro k hk w1 _;obtain rfl:k=0:=by omega
  cases a<;>simp[Builtin.firstCells,loadCells,loadCellsFrom]
 |sl hF hb hl hc h1 hr=>
  simp only[R0,dB,aB,bH]at e;obtain⟨hn,rfl,rfl⟩:=e;exact window _ _ _ _ _ _ _ hb hn hl h1 hr
 | @hs id off n t fz s cells b o cap T N hid hι hsh hn hc hN ht hf=>
   simp only[R0,hid,dB,aB,bH]at e;obtain⟨⟨rfl,hle⟩,rfl,rfl⟩:=e;have ok:=g.objs _ _ hid;cases ok with
   | @arr _ _ _ b' o' cs T' fr h0 h1 h2 h3 h4 h5 h6=>
     rw[h0]at hι;simp only[aB,bH]at hι;obtain⟨rfl,rfl⟩:=hι;refine window _ _ _ _ _ _ _ h1 (by simp;omega) (by simp;omega) ?_ ?_
     ·intro j v hj hv;simp at hj;exact h5 (off+j) v (by omega) (by rw[← eK];exact hv)
     ·intro j a v ha hv;rw[dY]at ha;split at ha
      ·rw[eL]at ha;exact h6 (off+j) a v ha (by rw[← eK];exact hv)
      ·cases ha
   |absent h0=>rw[h0]at hι;cases hι
 | @hs0 id off t fz s cells a hid hf ho=>
   simp only[R0,hid,dB,aB,bH]at e;obtain⟨⟨rfl,hle⟩,rfl,rfl⟩:=e;refine⟨a,0,[],rfl,by simp,by simp,by simp,by simp,?_⟩;intro k hk w1 _;obtain rfl:k=0:=by omega
   cases a<;>simp[Builtin.firstCells,loadCells,loadCellsFrom]
 |dead hr hid hv=>
  cases x<;>simp[AV.refs]at hr<;>subst hr<;>simp[R0,hid]at e
 |_=>simp[R0]at e
theorem aZr{sz m:Nat}{x:AV}{v:Value}{news:List AV}(g:GH G X w h)(r:RV X w h x v)(e:R0 h sz x=some (news,m)) :
 ∃a c,∃vs:List Value,v=.slice a m c∧news.length=m*sz∧vs.length=m*sz∧(∀u∈vs,u.oneCell'=true) ∧
  (∀(j:Nat) (y:AV) (u:Value),news[j]? = some y→vs[j]? = some u→RV X w h y u) ∧
  (∀w1:World,w1.heap=w.heap→(Builtin.firstCells sz m v).run P w1=.ok vs.toArray w1):=by
 obtain⟨a,c,vs,h1,h2,h3,h4,h5,h6⟩:=aOa (P:=P) g r e;refine⟨a,c,vs,h1,h2,h3,h4,h5,fun w1 hw=>?_⟩;have:=h6 m (bK _) w1 hw;rwa[bE (by omega)]at this
theorem K0{T:TypeId}{n:Nat}(h:lP P T=some n):∃i,P.info? T=some i∧i.size=n:=by
 unfold lP at h;cases hi:P.info? T with
 |none=>simp[hi]at h
 |some i=>exact⟨i,rfl,by simpa[hi]using h⟩
theorem zS{T:TypeId}{n:Nat}{i:TypeInfo}(hi:P.info? T=some i)(h:aCo P T=some n):i.bytes=n:=by
 simpa[aCo,hi]using h
theorem yG{T ty e:TypeId}{i:TypeInfo}(ht:P.underlying T=some (.slice e))(hi:P.info? e=some i)(b o n cap m:Nat)(x:Value)(vs:List Value)(cur:Array Value)(Tb:TypeId)
 (hb:w.heap[b]? = some (.cells cur Tb (0,0))) (hx:(Builtin.lenOf x).run P w=.ok m w) (hf:(Builtin.firstCells i.size m x).run P w=.ok vs.toArray w) (h1:∀u∈vs,u.oneCell'=true)
 (hroom:n+m≤cap) (hfit:o+n*i.size+vs.length≤cur.size) :
 (Builtin.append_ #[T,T] ty #[.slice (some ⟨b,o,Option.none⟩) n cap,x]).run P w =
  .ok (.slice (some ⟨b,o,Option.none⟩) (n+m) cap) (w.setRow b (cur.toList.take (o+n*i.size)++vs++cur.toList.drop (o+n*i.size+vs.length)).toArray):=by
 have hst:=run_storeCells_at P b (o+n*i.size) Tb vs 0 cur w hb (by simpa using hfit) h1;simp only[Nat.add_zero]at hst;simp[Builtin.append_,run_underlying ht,sizeOf,typeInfo,hi,hx,hroom,hf,add_lit,hst]
theorem wT{T ty e:TypeId}{i:TypeInfo}(ht:P.underlying T=some (.slice e))(hi:P.info? e=some i)(a:Option Addr)(n cap:Nat)(x:Value)
 (hx:(Builtin.lenOf x).run P w=.ok 0 w) (hf:(Builtin.firstCells i.size 0 x).run P w=.ok #[] w) (hroom:n≤cap) :
 (Builtin.append_ #[T,T] ty #[.slice a n cap,x]).run P w=.ok (.slice a n cap) w:=by
 cases a<;>simp[Builtin.append_,run_underlying ht,sizeOf,typeInfo,hi,hx,hroom,hf,storeCells]
theorem S8{T ty e:TypeId}{i:TypeInfo}{z:Value}(ht:P.underlying T=some (.slice e))(hi:P.info? e=some i)(hz:i.zero=some z)(a:Option Addr)(n cap m:Nat)(x:Value)(os vs:List Value)
 (hx:(Builtin.lenOf x).run P w=.ok m w) (hfo:(Builtin.firstCells i.size n (.slice a n cap)).run P w.drew=.ok os.toArray w.drew) (hf:(Builtin.firstCells i.size m x).run P w.drew=.ok vs.toArray w.drew)
 (hroom:cap<n+m) (h63:((n+m:Nat):Int)≤9223372036854775807) (hfit:Builtin.nextslicecap (n+m) cap*i.bytes≤281474976710656) :
 (Builtin.append_ #[T,T] ty #[.slice a n cap,x]).run P w =
  .ok (.slice (some ⟨w.heap.size,0,Option.none⟩) (n+m) (grownCap w (n+m) cap e))
   (w.drew.alloc (.cells (os.toArray++vs.toArray++Builtin.zeroCells z.cells (grownCap w (n+m) cap e-(n+m))) e)):=by
 have hn:¬(n+m≤cap):=by omega
 have h63':¬(9223372036854775807<((n:Int)+(m:Int))):=by omega
 have h48':¬(281474976710656<Builtin.nextslicecap (n+m) cap*i.bytes):=by omega
 simp[Builtin.append_,run_underlying ht,sizeOf,typeInfo,zeroValue,hi,hz,hx,hn,h63',h48',Question.forced,hf,hfo,newRow,grownCap];congr 2;apply oS;simp
theorem aBa(g:GH G X w h){id:Nat}{ob ob':AObj}{bo:Option (Nat×Nat)}{w':World}(hid:h[id]? = some ob)(hnb:∀z,ob ≠ .box false z)
 (hsz:w.heap.size≤w'.heap.size) (hos:w'.os=w.os) (htape:w'.tape=w.tape) (hout:w'.output=w.output)
 (hother:∀k,k<w.heap.size→(∀o,X.ι id≠some (k,o))→w'.heap[k]? = w.heap[k]?) (hF:∀b o,X.ι id=some (b,o)→¬X.F b)
 (hshp:∀k s,w.shape? k=some s→w'.shape? k=some s)
 (hnew:∀b o,bo=some (b,o)→(w.heap.size≤b∧b<w'.heap.size)∨∃o',X.ι id=some (b,o'))
 (hob:Ext X w h ((X.upd id Option.none).upd h.length bo) w' (h.set id .dead++[ob'])→ObjOK ((X.upd id Option.none).upd h.length bo) w' (h.set id .dead++[ob']) h.length ob') :
 GH G ((X.upd id Option.none).upd h.length bo) w' (h.set id .dead++[ob'])∧Tr X w h ((X.upd id Option.none).upd h.length bo) w' (h.set id .dead++[ob']):=by
 have hlt:=bP hid;have hlen:(h.set id AObj.dead).length=h.length:=by simp
 have hι':∀j,j≠id→j≠h.length→((X.upd id Option.none).upd h.length bo).ι j=X.ι j:=fun j h1 h2=>by rw[Ctx.upd_other _ _ h2,Ctx.upd_other _ _ h1]
 have hιid:((X.upd id Option.none).upd h.length bo).ι id=Option.none:=by rw[Ctx.upd_other _ _ (by omega),Ctx.upd_same]
 have hget:∀j,j≠id→j<h.length→(h.set id AObj.dead++[ob'])[j]? = h[j]? := fun j h1 h2=>by
  rw[aG (by simpa using h2),dW (D0 h1)]
 have hgetid:(h.set id AObj.dead++[ob'])[id]? = some .dead:=by rw[aG (by simpa using hlt)];simp[hlt]
 have e:Ext X w h ((X.upd id Option.none).upd h.length bo) w' (h.set id .dead++[ob']):=by
  refine⟨fun b hb=>hb,fun k hk=>hother k (g.fbnd k hk) (fun o ho=>hF _ _ ho hk),hshp,fun j oj hj=>?_⟩;by_cases hjd:j=id
  ·subst hjd;exact⟨_,hgetid,.inl rfl⟩
  ·have:=bP hj;exact⟨oj,by rw[hget j hjd this];exact hj,.inr ⟨AObj.like_refl _,.inl (hι' j hjd (by omega))⟩⟩
 refine⟨⟨?_,?_,?_,?_,?_,fun k a hk=>(g.gl k a hk).mono e⟩,⟨⟨hsz,hos,htape,hout,?_,?_,fun b hb=>.inl hb⟩,e,fun j z hj _=>by
  by_cases hjd:j=id
  ·subst hjd;rw[hid]at hj;cases hj;exact absurd rfl (hnb z)
  ·rw[hget j hjd (bP hj)];exact hj⟩⟩
 ·intro j oj hj;by_cases hjd:j=id
  ·subst hjd;rw[hgetid]at hj;cases hj;exact .absent hιid rfl
  ·by_cases hjl:j=h.length
   ·subst hjl;rw[aR (by simp)]at hj;simp at hj;exact hj▸hob e
   ·have hj':=bP hj;simp at hj';rw[hget j hjd (by omega)]at hj;refine(g.objs j oj hj).mono e (hι' j hjd hjl) (fun b o hb=>hother b (g.bnd _ _ _ hb) ?_) (fun _ _ _ f=>f);intro o' ho';exact hjd (g.inj _ _ _ _ _ hb ho')
 ·intro j b hb;by_cases hjl:j=h.length
  ·subst hjl;exact⟨ob',by rw[aR (by simp)];simp⟩
  ·by_cases hjd:j=id
   ·subst hjd;rw[hιid]at hb;cases hb
   ·rw[hι' j hjd hjl]at hb;obtain⟨oj,hj⟩:=g.dom j b hb;exact⟨oj,by rw[hget j hjd (bP hj)];exact hj⟩
 ·intro j k b o o' hj hk
  by_cases hjl:j=h.length
  ·by_cases hkl:k=h.length
   ·omega
   ·subst hjl;rw[Ctx.upd_same]at hj;by_cases hkd:k=id
    ·subst hkd;rw[hιid]at hk;cases hk
    ·rw[hι' k hkd hkl]at hk;have hbk:=g.bnd _ _ _ hk;rcases hnew _ _ hj with⟨h1,h2⟩|⟨o2,h2⟩
     ·omega
     ·exact absurd (g.inj _ _ _ _ _ hk h2) hkd
  ·by_cases hjd:j=id
   ·subst hjd;rw[hιid]at hj;cases hj
   ·rw[hι' j hjd hjl]at hj
    by_cases hkl:k=h.length
    ·subst hkl;rw[Ctx.upd_same]at hk;have hbk:=g.bnd _ _ _ hj;rcases hnew _ _ hk with⟨h1,h2⟩|⟨o2,h2⟩
     ·omega
     ·exact absurd (g.inj _ _ _ _ _ hj h2) hjd
    ·by_cases hkd:k=id
     ·subst hkd;rw[hιid]at hk;cases hk
     ·rw[hι' k hkd hkl]at hk;exact g.inj _ _ _ _ _ hj hk
 ·intro j b o hj;by_cases hjl:j=h.length
  ·subst hjl;rw[Ctx.upd_same]at hj;rcases hnew _ _ hj with⟨h1,h2⟩|⟨o2,h2⟩
   ·exact h2
   ·have:=g.bnd _ _ _ h2;omega
  ·by_cases hjd:j=id
   ·subst hjd;rw[hιid]at hj;cases hj
   ·rw[hι' j hjd hjl]at hj;have:=g.bnd _ _ _ hj;omega
 ·intro b hb;have:=g.fbnd b hb;omega
 ·intro k hk hno;exact hother k hk (fun o ho=>hno _ _ ho)
 ·intro j b o hj;by_cases hjl:j=h.length
  ·subst hjl;rw[Ctx.upd_same]at hj;rcases hnew _ _ hj with⟨h1,h2⟩|⟨o2,h2⟩
   ·exact .inl h1
   ·exact .inr ⟨_,_,h2⟩
  ·by_cases hjd:j=id
   ·subst hjd;rw[hιid]at hj;cases hj
   ·rw[hι' j hjd hjl]at hj;exact .inr ⟨_,_,hj⟩
end
section
variable {P:Program} {G:Glob} {X:Ctx} {w:World} {h:List AObj}
theorem pK{T e:TypeId}(h:fV P T=some e):P.underlying T=some (.slice e):=by
 unfold fV at h;split at h
 ·rename_i hu;cases h;exact hu
 ·cases h
theorem jD{e:TypeId}{z:List AV}(h:zeroOf P e=some z):∃i v,P.info? e=some i∧i.zero=some v∧U8 v=some z:=by
 unfold zeroOf at h;cases hi:P.info? e with
 |none=>simp[hi]at h
 |some i=>
  cases hz:i.zero with
  |none=>simp[hi,hz]at h
  |some v=>exact⟨i,v,rfl,hz,by simpa[hi,hz]using h⟩
theorem wY{v:Value}{z:List AV}(h:U8 v=some z):v.cells.size=z.length:=(kS (X:=.none fun _=>False) (w:=default) (h:=[]) h).1
theorem bFe{olds news:List AV}{os vs:List Value}{Z:Array Value}{cs:Array Value}{Q:AV→Value→Prop}(hcs:∀j:Nat,j<olds.length+news.length→cs[j]? = ((os++vs)[j]?))(ho:os.length=olds.length)(hv:vs.length=news.length)
 (hr:∀(j:Nat) (a:AV) (v:Value),olds[j]? = some a→os[j]? = some v→Q a v) (hn:∀(j:Nat) (a:AV) (v:Value),news[j]? = some a→vs[j]? = some v→Q a v) :
 ∀(j:Nat) (a:AV) (v:Value),(olds++news)[j]? = some a→cs[j]? = some v→Q a v:=by
 intro j a v ha hv';have hlt:=bP ha;rw[hcs j (by simpa using hlt)]at hv';by_cases hj:j<olds.length
 ·rw[aG hj]at ha;rw[aG (by omega)]at hv';exact hr _ _ _ ha hv'
 ·rw[aR (by omega)]at ha;rw[aR (by omega),ho]at hv';exact hn _ _ _ ha hv'
theorem aAc{z:Array Value}(hz:kF z){n:Nat}:∀v∈Builtin.zeroCells z n,v.oneCell'=true:=by
 intro v hv;simp only[Builtin.zeroCells,Array.mem_map,Array.mem_range]at hv;obtain⟨j,hj,rfl⟩:=hv;have hp:0<z.size:=Nat.pos_of_ne_zero fun e=>by rw[e,Nat.mul_zero]at hj;omega
 have hlt:=Nat.mod_lt j hp;have:z[j % z.size]! = z[j % z.size]:=getElem!_pos z _ hlt;rw[this];exact hz _ _ (bW hlt)
theorem zV{T ty : TypeId}{s x y:AV}{u v:Value}{h':List AObj}(g:GH G X w h)(rs:RV X w h s u)(rx:RV X w h x v)(e:iE P h T s x=some (y,h')) :
 ∃X' w' y',(Builtin.append_ #[T,T] ty #[u,v]).run P w=.ok y' w'∧RV X' w' h' y y'∧GH G X' w' h'∧Tr X w h X' w' h':=by
 unfold iE at e;cases he:fV P T with
 |none=>simp[he]at e
 |some el=>
 have ht:=pK he;cases hz:zeroOf P el with
 |none=>simp[he,hz]at e
 |some z=>
 cases hby:aCo P el with
 |none=>simp[he,hz,hby]at e
 |some by_=>
 simp only[he,hz,hby]at e;split at e;case isFalse=>cases e
 rename_i hc;obtain⟨hz0,hsz⟩:=hc;cases hw:R0 h z.length x with
 |none=>simp[hw]at e
 |some q=>
 obtain⟨news,m⟩:=q;simp only[hw]at e;obtain⟨i,zv,hi,hiz,hzc⟩:=jD hz;have hzs:=wY hzc;have hisz:i.size=z.length:=by obtain⟨i',h1,h2⟩:=K0 hsz;rw[hi]at h1;cases h1;exact h2
 have hiby:i.bytes=by_:=zS hi hby
 obtain⟨a,c,vs,rfl,hnl,hvl,hv1,hvr,hvf⟩:=aZr g rx hw;have hlen:∀w1,(Builtin.lenOf (.slice a m c)).run P w1=.ok m w1:=fun w1=>rfl;have hcap:∀n cap:Nat,cap<n+m→(n+m)*by_≤140737488355328→Builtin.nextslicecap (n+m) cap*i.bytes≤281474976710656:=fun n cap h1 h2=>growslice_fits h1 (by rw[hiby];exact h2);have fresh:∀(ob:Option Addr) (n cap:Nat) (olds:List AV) (os:List Value),olds.length=n*z.length→os.length=n*z.length→(∀u∈os,u.oneCell'=true) →
  (∀(j:Nat) (a:AV) (v:Value),olds[j]? = some a→os[j]? = some v→RV X w h a v)→(Builtin.firstCells i.size n (.slice ob n cap)).run P w.drew=.ok os.toArray w.drew →
  cap<n+m→(n+m)*by_≤140737488355328→n+m≤140737488355328 →
  ∃w' cs gc,(Builtin.append_ #[T,T] ty #[.slice ob n cap,.slice a m c]).run P w=.ok (.slice (some ⟨w.heap.size,0,Option.none⟩) (n+m) gc) w'∧iD w w' (.cells cs el (0,0)) ∧
   n+m≤gc∧gc*z.length≤cs.size∧(olds++news).length=(n+m)*z.length∧(olds++news).length≤cs.size ∧
   kF cs∧(∀(j:Nat) (a:AV) (v:Value),(olds++news)[j]? = some a→cs[j]? = some v→RV X w h a v):=by
  intro ob n cap olds os hol hosl ho1 hor hof hlt hbytes h63;have hrun:=S8 (ty:=ty) ht hi hiz ob n cap m (.slice a m c) os vs (hlen w) hof (by rw[hisz];exact hvf _ rfl) hlt (by omega) (hcap _ _ hlt hbytes);have hge:=grownCap_ge w (n+m) cap el;have hsize:(os.toArray++vs.toArray++Builtin.zeroCells zv.cells (grownCap w (n+m) cap el-(n+m))).size=grownCap w (n+m) cap el*z.length:=by
   simp only[kP,gN,size_zeroCells,hosl,hvl,hzs,← Nat.add_mul];congr 1;omega
  have hol2:(olds++news).length=(n+m)*z.length:=by simp[hol,hnl,Nat.add_mul]
  have hcs:∀j:Nat,j<olds.length+news.length→(os.toArray++vs.toArray++Builtin.zeroCells zv.cells (grownCap w (n+m) cap el-(n+m)))[j]? = ((os++vs)[j]?):=by
   intro j hj;rw[dU (by simp;omega)];simp
  refine⟨_,_,_,hrun,iD.drew _ _,hge,by rw[hsize];exact bK _,hol2,by rw[hsize,hol2];exact cN _ hge,?_,?_⟩
  ·intro j v hv;have hm:=gX hv;rcases qL.1 hm with h1|h1
   ·rcases qL.1 h1 with h1|h1
    ·exact ho1 _ (by simpa using h1)
    ·exact hv1 _ (by simpa using h1)
   ·exact aAc (kS (X:=X) (w:=w) (h:=h) hzc).2.1 _ h1
  ·exact bFe (Z := #[]) hcs (by omega) (by omega) hor hvr
 have freshObj:∀(cs:Array Value) (n gc:Nat) (w':World) (cells:List AV),iD w w' (.cells cs el (0,0))→n≤gc→gc*z.length≤cs.size→cells.length=n*z.length→cells.length≤cs.size →
  kF cs→(∀(j:Nat) (a:AV) (v:Value),cells[j]? = some a→cs[j]? = some v→RV X w h a v) →
  RV (X.upd h.length (some (w.heap.size,0))) w' (h++[.arr false z.length cells]) (.hs h.length 0 n false) (.slice (some ⟨w.heap.size,0,Option.none⟩) n gc) ∧
  GH G (X.upd h.length (some (w.heap.size,0))) w' (h++[.arr false z.length cells])∧Tr X w h (X.upd h.length (some (w.heap.size,0))) w' (h++[.arr false z.length cells]):=by
  intro cs n gc w' cells hp hn hg hcl hcs h1 hr;refine⟨?_,qP g hp _ ((nB g hp cells hcs (fun j v _ hv=>h1 j v hv) hr).2 h1 _)⟩;have hsh:w'.shape? w.heap.size=some (el,cs.size):=by simp[World.shape?,hp.at]
  have:=RV.hs (X:=X.upd h.length (some (w.heap.size,0))) (w:=w') (h:=h++[.arr false z.length cells]) (id:=h.length) (off:=0) (n:=n) (t:=false) (cap:=gc) (fz:=false) (sz:=z.length) (cells:=cells) (by simp) (Ctx.upd_same _ _ _) hsh (by omega) hn (by omega) (by simp) (fun _=>by
   have:=cN z.length hn;omega)
  simpa using this
 cases s with
 |e0=>
  simp only[dB,aB,bH]at e;obtain⟨⟨hb1,hb2⟩,rfl,rfl⟩:=e;cases rs with
  |dead hr _ _=>simp[AV.refs]at hr
  |e0 ob=>
   by_cases hm:m=0
   ·subst hm;have hnews:news=[]:=List.eq_nil_of_length_eq_zero (by simpa using hnl);have hvs:vs=[]:=List.eq_nil_of_length_eq_zero (by simpa using hvl);subst hnews;subst hvs;have hrun:=wT (w:=w) (ty:=ty) ht hi ob 0 0 (.slice a 0 c) (hlen w) (by rw[hisz];exact hvf _ rfl) (bK _);refine⟨X.upd h.length Option.none,w,_,hrun,.hs0 (fz:=false) (sz:=z.length) (cells:=[]) (by simp) (by simp) (by simp),aBb g (J2.refl w) _ _ (by simp) (.absent (Ctx.upd_same _ _ _) rfl)⟩
   ·have hfo:(Builtin.firstCells i.size 0 (.slice ob 0 0)).run P w.drew=.ok ([]:List Value).toArray w.drew:=by cases ob<;>simp[Builtin.firstCells,loadCells,loadCellsFrom]
    obtain⟨w',cs,gc,hrun,hp,h1,h2,h3,h4,h5,h6⟩:=fresh ob 0 0 [] [] (by simp) (by simp) (by simp) (by simp) hfo (by omega) (by simpa using hb1) (by omega);simp only[aJ,dM]at h1 h2 h3 h4 h5 h6 hrun;obtain⟨h7,h8,h9⟩:=freshObj cs m gc w' news hp h1 h2 h3 h4 h5 h6;exact⟨_,_,_,hrun,h7,h8,h9⟩
 |hs id off n t =>
  cases hid:h[id]? with
  |none=>simp[hid]at e
  |some ob=>
  simp only[hid]at e;cases ob with
  |arr fz sz cells =>
   simp only at e;split at e;case isFalse=>cases e
   rename_i hc;obtain⟨rfl,hle,hbytes,h63⟩:=hc;have hwin:R0 h z.length (.hs id off n t)=some ((cells.drop off).take (n*z.length),n):=by simp[R0,hid,hle]
   obtain⟨oa,ocap,os,rfl,hol,hosl,ho1,hor,hof⟩:=aZr g rs hwin;have hfo:=hof w.drew rfl;rw[← hisz]at hfo;have room:(ocap=0∧n=0∧(t=false→cells.length≤off)∧off≤cells.length) ∨
    (∃b o T' N,X.ι id=some (b,o)∧oa=some ⟨b,o+off,Option.none⟩∧w.shape? b=some (T',N)∧n≤ocap∧o+off+ocap*z.length≤N∧(t=true→ocap=n)∧(t=false→cells.length≤off+ocap*z.length)):=by
    cases rs with
    |dead hr hd _=>simp[AV.refs]at hr;subst hr;rw[hid]at hd;cases hd
    |hs0 hid' hf ho=>rw[hid]at hid';cases hid';exact .inl ⟨rfl,rfl,hf,ho⟩
    |hs hid' hι hsh hn hc hN htt hff=>rw[hid]at hid';cases hid';exact .inr ⟨_,_,_,_,hι,rfl,hsh,hc,hN,htt,hff⟩
   cases t with
   |true=>
    simp only[if_true,dB,aB,bH]at e;obtain⟨hm,rfl,rfl⟩:=e;have hcn:ocap=n:=by
     rcases room with⟨h1,h2,_⟩|⟨b,o,T',N,_,_,_,_,_,h1,_⟩
     ·omega
     ·exact h1 rfl
    obtain⟨w',cs,gc,hrun,hp,h1,h2,h3,h4,h5,h6⟩:=fresh oa n ocap _ os hol hosl ho1 hor hfo (by omega) hbytes h63;obtain⟨h7,h8,h9⟩:=freshObj cs (n+m) gc w' _ hp h1 h2 h3 h4 h5 h6;exact⟨_,_,_,hrun,h7,h8,h9⟩
   |false =>
    simp only[aE,if_false]at e;cases fz with
    |true=>simp at e
    |false =>
     simp only[aE,if_false]at e
     have move : ∃X' w' y',(Builtin.append_ #[T,T] ty #[.slice oa n ocap,.slice a m c]).run P w=.ok y' w' ∧
      RV X' w' (h.set id .dead++[.arr false z.length ((cells.drop off).take (n*z.length)++news)]) (.hs h.length 0 (n+m) false) y' ∧
      GH G X' w' (h.set id .dead++[.arr false z.length ((cells.drop off).take (n*z.length)++news)])∧Tr X w h X' w' (h.set id .dead++[.arr false z.length ((cells.drop off).take (n*z.length)++news)]):=by
      have hnF:∀b o,X.ι id=some (b,o)→¬X.F b:=by
       intro b o hb;have ok:=g.objs _ _ hid;cases ok with
       |arr h0 _ _ hf2=>rw[h0]at hb;cases hb;exact(hf2 rfl).1
       |absent h0=>rw[h0]at hb;cases hb
      have hcl:((cells.drop off).take (n*z.length)++news).length=(n+m)*z.length:=by rw[List.length_append,hol,hnl,Nat.add_mul]
      have hlast:(h.set id AObj.dead++[AObj.arr false z.length ((cells.drop off).take (n*z.length)++news)])[h.length]? = some (.arr false z.length ((cells.drop off).take (n*z.length)++news)):=by
       rw[aR (by simp)];simp
      by_cases hroom:n+m≤ocap
      ·rcases room with⟨h1,h2,h3,h4⟩|⟨b,o,T',N,hι,hoa,hsh,hn,hN,_,hff⟩
       ·obtain rfl:n=0:=h2;obtain rfl:m=0:=by omega
        subst h1;have hnews:news=[]:=List.eq_nil_of_length_eq_zero (by simpa using hnl);subst hnews;have hvs:vs=[]:=List.eq_nil_of_length_eq_zero (by simpa using hvl);subst hvs;have hrun:=wT (w:=w) (ty:=ty) ht hi oa 0 0 (.slice a 0 c) (hlen w) (by rw[hisz];exact hvf _ rfl) (bK _);refine⟨(X.upd id Option.none).upd h.length Option.none,w,_,hrun,.hs0 hlast (by simp) (by simp),aBa g hid (by simp) (bK _) rfl rfl rfl (fun _ _ _=>rfl) hnF (fun _ _ h=>h) (by simp) (fun _=>?_)⟩;simp only[nV,bR,List.append_nil];exact .absent (Ctx.upd_same _ _ _) rfl
       ·subst hoa
        have ok:=g.objs _ _ hid;cases ok with
        |absent h0=>rw[h0]at hι;cases hι
        | @arr _ _ _ b' o' cur T'' fr h0 hb hf1 hf2 hlen' h1 hr hc1=>
        rw[h0]at hι;cases hι;obtain⟨hF,rfl⟩:=hf2 rfl;have hNs:N=cur.size:=by simp[World.shape?,hb]at hsh;exact hsh.2.symm
        subst hNs;have hmul:=cN z.length hroom;rw[Nat.add_mul]at hmul;have hrun:=yG (ty:=ty) ht hi b (o+off) n ocap m (.slice a m c) vs cur T'' hb (hlen w) (by rw[hisz];exact hvf _ rfl) hv1 hroom (by rw[hisz];omega);rw[hisz]at hrun;have hle2:o+off+n*z.length+vs.length≤cur.size:=by omega
        have hrow:=setRow_heap w b cur (cur.toList.take (o+off+n*z.length)++vs++cur.toList.drop (o+off+n*z.length+vs.length)).toArray T'' (0,0) hb;have hrs:((cur.toList.take (o+off+n*z.length)++vs++cur.toList.drop (o+off+n*z.length+vs.length)).toArray).size=cur.size:=by simp;omega
        have hshp:=fun(k:Nat) (s:TypeId×Nat) (hk:w.shape? k=some s)=>(show(w.setRow b (cur.toList.take (o+off+n*z.length)++vs++cur.toList.drop (o+off+n*z.length+vs.length)).toArray).shape? k=some s by
         by_cases hkb:k=b
         ·subst hkb;exact pZ hb hrs s hk
         ·rw[nL (setRow_other w b k _ hkb)];exact hk)
        refine⟨(X.upd id Option.none).upd h.length (some (b,o+off)),_,_,hrun,?_,aBa g hid (by simp) (by simp) rfl rfl rfl (fun k _ hk=>setRow_other w b k _ (fun e=>hk o (by rw[e];exact h0))) hnF hshp (fun b' o' e=>by cases e;exact .inr ⟨o,h0⟩) (fun ee=>?_)⟩
        ·have:=RV.hs (X:=(X.upd id Option.none).upd h.length (some (b,o+off))) (t:=false) (off:=0) (n:=n+m) (cap:=ocap) hlast (Ctx.upd_same _ _ _) (hshp b _ hsh) (by omega) hroom (by omega) (by simp) (fun _=>by rw[hcl];have:=cN z.length hroom;omega);simpa using this
        ·have hget:∀j:Nat,j<(n+m)*z.length→((cur.toList.take (o+off+n*z.length)++vs++cur.toList.drop (o+off+n*z.length+vs.length)).toArray)[o+off+j]? = if j<n*z.length then cur[o+off+j]? else vs[j-n*z.length]? := by
          intro j hj;rw[rP cur _ vs hle2];rw[Nat.add_mul]at hj;by_cases h1:j<n*z.length
          ·rw[if_pos (by omega),if_pos h1]
          ·rw[if_neg (by omega),if_pos (by omega),if_neg h1];congr 1;omega
         refine .arr (Ctx.upd_same _ _ _) hrow (fun f=>by cases f) (fun _=>⟨hF,rfl⟩) ?_ ?_ ?_ (yF hc1 hv1)
         ·rw[hcl,hrs,Nat.add_mul];omega
         ·intro j v hj hv;rw[hcl]at hj;rw[hget j hj]at hv;split at hv
          ·exact h1 (off+j) v (by omega) (by rw[← eK];exact hv)
          ·exact hv1 v (eD hv)
         ·intro j av v ha hv;have hj:=bP ha;rw[hcl]at hj;rw[hget j hj]at hv;by_cases h2:j<n*z.length
          ·rw[if_pos h2]at hv;rw[aG (by rw[hol];exact h2),dY,if_pos h2,eL]at ha;exact(hr (off+j) av v ha (by rw[← eK];exact hv)).mono ee
          ·rw[if_neg h2]at hv;rw[aR (by rw[hol];omega),hol]at ha;exact(hvr _ av v ha hv).mono ee
      ·obtain⟨w',cs,gc,hrun,hp,h1,h2,h3,h4,h5,h6⟩:=fresh oa n ocap _ os hol hosl ho1 hor hfo (by omega) hbytes h63;refine⟨(X.upd id Option.none).upd h.length (some (w.heap.size,0)),w',_,hrun,?_,aBa g hid (by simp) hp.grew.size hp.os hp.tape hp.output (fun k hk _=>hp.old hk) hnF (fun k s hk=>by rw[nL (hp.old (rT hk))];exact hk) (fun b' o' e=>by cases e;have:=hp.size;exact .inl ⟨bK _,by omega⟩) (fun ee=>?_)⟩
       ·have hsh:w'.shape? w.heap.size=some (el,cs.size):=by simp[World.shape?,hp.at]
        have:=RV.hs (X:=(X.upd id Option.none).upd h.length (some (w.heap.size,0))) (t:=false) (off:=0) (n:=n+m) (cap:=gc) hlast (Ctx.upd_same _ _ _) hsh (by omega) h1 (by omega) (by simp) (fun _=>by rw[hcl];have:=cN z.length h1;omega);simpa using this
       ·exact .arr (Ctx.upd_same _ _ _) hp.at (fun f=>by cases f) (fun _=>⟨fun f=>by have:=g.fbnd _ f;omega,rfl⟩) (by omega) (fun j v _ hv=>h5 j v (by simpa using hv)) (fun j av v ha hv=>(h6 j av v ha (by simpa using hv)).mono ee) h5
     split at e
     ·rename_i htop;simp only[aB,bH]at e;obtain⟨rfl,rfl⟩:=e;have:(cells.drop off).take (n*z.length)=cells.drop off:=bE (by simp;omega);rw[this]at move;exact move
     ·split at e
      ·rename_i htop hfit;simp only[aB,bH]at e;obtain⟨rfl,rfl⟩:=e;rcases room with⟨h1,h2,h3,h4⟩|⟨b,o,T',N,hι,hoa,hsh,hn,hN,_,hff⟩
       ·have:=h3 rfl;subst h2;omega
       ·subst hoa;have ok:=g.objs _ _ hid;cases ok with
        |absent h0=>rw[h0]at hι;cases hι
        | @arr _ _ _ b' o' cur T'' fr h0 hb hf1 hf2 hlen' h1 hr hc1=>
        rw[h0]at hι;cases hι;obtain⟨hF,rfl⟩:=hf2 rfl;have hroom:n+m≤ocap:=by
         have:=hff rfl;have h3:(n+m)*z.length≤ocap*z.length:=by omega
         exact Nat.le_of_mul_le_mul_right h3 hz0
        rw[Nat.add_mul]at hfit;have hrun:=yG (ty:=ty) ht hi b (o+off) n ocap m (.slice a m c) vs cur T'' hb (hlen w) (by rw[hisz];exact hvf _ rfl) hv1 hroom (by rw[hisz];omega);rw[hisz]at hrun;have hrs:((cur.toList.take (o+off+n*z.length)++vs++cur.toList.drop (o+off+n*z.length+vs.length)).toArray).size=cur.size:=by simp;omega
        have hadd:o+off+n*z.length=o+(off+n*z.length):=by omega
        have hspl:(kO cells (off+n*z.length) news).length=cells.length:=iX _ _ _ (by omega);have hshp:=pZ (w:=w) hb hrs;refine⟨X,_,_,hrun,?_,sC g hid h0 hF (by simp[AObj.like,hspl]) (by simp) rfl rfl rfl (fun k hk=>setRow_other w b k _ hk) (fun s hs=>hshp s hs) (fun ee=>?_)⟩
        ·exact .hs (fz:=false) (sz:=z.length) (cells:=kO cells (off+n*z.length) news) (by simp[bP hid]) h0 (hshp _ hsh) (by rw[hspl,Nat.add_mul];omega) hroom hN (by simp) (by rw[hspl];exact hff)
        ·refine .arr h0 (setRow_heap w b cur _ T'' (0,0) hb) (fun f=>by cases f) (fun _=>⟨hF,rfl⟩) (by rw[hspl,hrs];exact hlen') ?_ ?_ (yF hc1 hv1)
         ·rw[hspl,hadd];exact qT hlen' (by omega) h1 hv1
         ·rw[hadd]at ee ⊢;exact uA hlen' (by omega) (by omega) (fun j a v ha hv=>(hr j a v ha hv).mono ee) (fun j a v ha hv=>(hvr j a v ha hv).mono ee)
      ·simp only[aB,bH]at e;obtain⟨rfl,rfl⟩:=e;exact move
  |_=>simp at e
 |_=>simp at e
theorem bQx{T U ty el:TypeId}{id off n m sz:Nat}{t:Bool}{x:AV}{vd vx:Value}{cells win:List AV}(g:GH G X w h)(rd:RV X w h (.hs id off n t) vd)(rx:RV X w h x vx)(hT:P.underlying T=some (.slice el))(hs:lP P el=some sz)
 (hid:h[id]? = some (.arr false sz cells)) (hw:R0 h sz x=some (win,m)) (hle:off+n*sz≤cells.length) :
 ∃w',(Builtin.copy_ #[T,U] ty #[vd,vx]).run P w=.ok (.int .i64 (min m n:Nat)) w'∧GH G X w' (h.set id (.arr false sz (kO cells off (win.take (min m n*sz)))))∧Tr X w h X w' (h.set id (.arr false sz (kO cells off (win.take (min m n*sz))))):=by
 obtain⟨a,c,vs,rfl,hnl,hvl,hv1,hvr,hvf⟩:=aOa (P:=P) g rx hw;have hf:=hvf (min m n) (Nat.min_le_left _ _) w rfl;have hk1:=cN sz (Nat.min_le_left m n);have hk2:=cN sz (Nat.min_le_right m n);have hlw:(win.take (min m n*sz)).length=min m n*sz:=by rw[List.length_take];omega
 have hlv:(vs.take (min m n*sz)).length=min m n*sz:=by rw[List.length_take];omega
 cases rd with
 |dead hr hd _=>simp only[AV.refs,aB]at hr;subst hr;rw[hid]at hd;cases hd
 |hs0 hid' h2 h3=>
  have hm:min m 0=0:=by omega
  simp only[hm,nV,bR]at hf hlw ⊢;have he:h.set id (.arr false sz (kO cells off []))=h:=by
   have:kO cells off []=cells:=by simp[kO,cI]
   rw[this];apply oP;intro j;rw[List.getElem?_set];split
   ·rename_i hj;subst hj;rw[if_pos (bP hid),hid]
   ·rfl
  rw[he];rename_i ad;refine⟨w,?_,g,.refl _ _ _⟩;cases ad<;>simp[Builtin.copy_,run_underlying hT,Builtin.lenOf,gL hs,hf,goInt,storeCells]
 | @hs _ _ _ _ fz s cells' b o cap T' N hid' hι hsh hn hc hN ht hff=>
   rw[hid]at hid';cases hid';have ok:=g.objs _ _ hid;cases ok with
   |absent h0=>rw[h0]at hι;cases hι
   | @arr _ _ _ b' o' cur Tb fr h0 hb hf1 hf2 hlen h1 hr hc1=>
     rw[hι]at h0;simp only[aB,bH]at h0;obtain⟨rfl,rfl⟩:=h0;obtain⟨hF,rfl⟩:=hf2 rfl;have hst:=run_storeCells_at P b (o+off) Tb (vs.take (min m n*sz)) 0 cur w hb (by simp;omega) (fun v hv=>hv1 v (dH hv));simp only[Nat.add_zero]at hst;have hrs:((cur.toList.take (o+off)++vs.take (min m n*sz)++cur.toList.drop (o+off+(vs.take (min m n*sz)).length)).toArray).size=cur.size:=by simp;omega
     have hspl:(kO cells off (win.take (min m n*sz))).length=cells.length:=iX _ _ _ (by omega);refine⟨w.setRow b (cur.toList.take (o+off)++vs.take (min m n*sz)++cur.toList.drop (o+off+(vs.take (min m n*sz)).length)).toArray,?_,sC g hid hι hF (by simp[AObj.like,hspl]) (by simp) rfl rfl rfl (fun k hk=>setRow_other w b k _ hk) (fun s hs=>pZ hb hrs s hs) (fun ee=>?_)⟩
     ·have hmin:Nat.min m n=min m n:=rfl;simp only[Builtin.copy_,cR,bT,bZ,cD,run_underlying hT,bO,Builtin.lenOf,eE,gL hs,hmin,hf,List.toList_toArray,hst,goInt]
     ·refine .arr hι (setRow_heap w b cur _ Tb (0,0) hb) (fun f=>by cases f) (fun _=>⟨hF,rfl⟩) (by rw[hspl,hrs];exact hlen) ?_ ?_ (yF hc1 (fun v hv=>hv1 v (dH hv)))
      ·rw[hspl];exact qT hlen (by omega) h1 (fun v hv=>hv1 v (dH hv))
      ·refine uA hlen (by omega) (by omega) (fun j a v ha hv=>(hr j a v ha hv).mono ee) (fun j a v ha hv=>?_);rw[dY]at ha hv;split at ha
       ·rename_i hj;rw[if_pos hj]at hv;exact(hvr j a v ha hv).mono ee
       ·cases ha
end
section
variable {P:Program} {G:Glob} {X:Ctx} {w:World} {h:List AObj}
theorem xZ(a:List UInt8):(⟨a.toArray⟩:ByteArray).toList=a:=by rw[ByteArray.toList_eq]
theorem K8(a:List UInt8):(⟨a.toArray⟩:ByteArray).size=a.length:=by simp[ByteArray.size]
theorem X8{T:TypeId}{x y:AV}{u v:Value}{r:Bool}(rx:RV X w h x u)(ry:RV X w h y v)(e:lM P T x y=some r)(d:Nat)(w1:World):(Op.equalIn (d+1) T u v).run P w1=.ok r w1:=by
 unfold lM at e;cases hu:P.underlying T with
 |none=>simp[hu]at e
 |some t=>
  rw[hu]at e;cases x with
  |b x=>
   cases t<;>cases y<;>simp at e;subst e;cases rx with
   |b=>cases ry with
    |b=>rw[run_equalIn_bool w1 d T _ _ hu];rfl
    |dead hr _ _=>simp[AV.refs]at hr
   |dead hr _ _=>simp[AV.refs]at hr
  |i k x=>
   cases t<;>cases y<;>simp at e;obtain⟨rfl,rfl⟩:=e;cases rx with
   |i=>cases ry with
    |i=>rw[run_equalIn_int w1 d T _ _ _ _ hu];rfl
    |dead hr _ _=>simp[AV.refs]at hr
   |dead hr _ _=>simp[AV.refs]at hr
  |s x =>
   cases t<;>cases y<;>simp at e;subst e;cases rx with
   |s => cases ry with
    |s=>
     rw[run_equalIn_string w1 d T _ _ hu,xZ,xZ];congr 1;exact(gW _ _)
    |dead hr _ _=>simp[AV.refs]at hr
   |dead hr _ _=>simp[AV.refs]at hr
  |_=>cases t<;>simp at e
theorem aJb{T:TypeId}(hl:G4 P T=true)(w:World):(isAgg T).run P w=.ok false w:=by
 unfold G4 at hl;cases hu:P.underlying T with
 |none=>simp[hu]at hl
 |some t=>
  simp only[isAgg,cD,run_underlying hu,bO];cases t<;>simp[hu]at hl<;>rfl
theorem N4{T:TypeId}(hl:G4 P T=true)(cs:Array Value)(j:Nat)(v:Value)(hv:cs[j]? = some v)(w:World):(part T cs j).run P w=.ok v w:=by
 simp[part,aJb hl,hv]
theorem P4{xs ys:List AV}{us vs:Array Value}(hx:xs.length=us.size)(hy:ys.length=vs.size)(rx:∀(j:Nat) (a:AV) (v:Value),xs[j]? = some a→us[j]? = some v→RV X w h a v)
 (ry:∀(j:Nat) (a:AV) (v:Value),ys[j]? = some a→vs[j]? = some v→RV X w h a v) (d:Nat) (w1:World) :
 ∀(fs:List Field) (k:Nat) (r:Bool),((fs.zipIdx k).all fun(f,j)=>f.name != "_" && f.offset == j&&G4 P f.type)=true→jH P (fs.map (·.type)) (xs.drop k) (ys.drop k)=some r →
  (Op.eqFields (d+1) us vs fs).run P w1=.ok r w1
 | [],k,r,_,e=>by
   simp only[aZ]at e;cases hxd:xs.drop k with
   |nil=>cases hyd:ys.drop k with
    |nil=>simp[hxd,hyd,jH]at e;subst e;rfl
    |cons=>simp[hxd,hyd,jH]at e
   |cons=>cases hyd:ys.drop k<;>simp[hxd,hyd,jH]at e
 |f :: fs,k,r,hall,e=>by
  simp only[aCq,oQ,aA,bne_iff_ne,ne_eq,beq_iff_eq]at hall;obtain⟨⟨⟨hn,ho⟩,hl⟩,hrest⟩:=hall;simp only[aK]at e;cases hxd:xs.drop k with
  |nil=>simp[hxd,jH]at e
  |cons x xs'=>
   cases hyd:ys.drop k with
   |nil=>simp[hxd,hyd,jH]at e
   |cons y ys'=>
    have hxk:xs[k]? = some x:=by have:=eL (xs:=xs) (i:=k) (j:=0);rw[hxd]at this;simpa using this.symm
    have hyk:ys[k]? = some y:=by have:=eL (xs:=ys) (i:=k) (j:=0);rw[hyd]at this;simpa using this.symm
    have hxs':xs'=xs.drop (k+1):=by rw[← pV,hxd];rfl
    have hys':ys'=ys.drop (k+1):=by rw[← pV,hyd];rfl
    have hku:k<us.size:=hx▸bP hxk;have hkv:k<vs.size:=hy▸bP hyk;simp only[hxd,hyd,jH]at e;cases ha:lM P f.type x y with
    |none=>simp[ha]at e
    |some a=>
     cases hb:jH P (fs.map (·.type)) xs' ys' with
     |none=>simp[ha,hb]at e
     |some b=>
      simp only[ha,hb,aB]at e;subst e;rw[hxs',hys']at hb;have ih:=P4 hx hy rx ry d w1 fs (k+1) b hrest hb;obtain⟨uk,huk⟩:∃u,us[k]? = some u:=⟨us[k],by simp[hku]⟩;obtain⟨vk,hvk⟩:∃v,vs[k]? = some v:=⟨vs[k],by simp[hkv]⟩;have h1:=N4 hl us k uk huk w1;have h2:=N4 hl vs k vk hvk w1;have h3:=X8 (rx k x uk hxk huk) (ry k y vk hyk hvk) ha d w1;rw[← ho]at h1 h2;simp only[Op.eqFields,if_pos hn,cD,h1,h2,h3,bO,Sem.run_ite];cases a
      ·simp
      ·simpa using ih
theorem oL{T:TypeId}{ts:List TypeId}(e:kR P T=some ts) :
 P.underlying T=some (.struct (P.fieldsOf T))∧ts=(P.fieldsOf T).toList.map (·.type)∧(((P.fieldsOf T).toList.zipIdx 0).all fun(f,j)=>f.name != "_" && f.offset == j&&G4 P f.type)=true ∧
  P.stoodInHeld T=false∧P.eqGuardType P.depth T=false:=by
 unfold kR at e;cases hu:P.underlying T with
 |none=>simp[hu]at e
 |some d=>
  cases d with
  |struct fs=>
   have hf:P.fieldsOf T=fs:=by simp[Program.fieldsOf,hu]
   rw[hu]at e;simp only[dB,aB,aA,eF]at e;obtain⟨⟨⟨h1,h2⟩,h3⟩,h4⟩:=e;rw[hf];exact⟨rfl,h4.symm,h1,h2,h3⟩
  |_=>simp[hu]at e
theorem bLh{T:TypeId}{x y:AV}{u v:Value}{r:Bool}(rx:RV X w h x u)(ry:RV X w h y v)(e:aEq P T x y=some r)(d:Nat)(w1:World):(Op.equalIn (d+2) T u v).run P w1=.ok r w1:=by
 unfold aEq at e;split at e
 ·rename_i xs ys;cases hl:kR P T with
  |none=>simp[hl]at e
  |some ts=>
   simp only[hl]at e;obtain⟨h1,rfl,h3,h4,h5⟩:=oL hl;cases rx with
   |agg hx hx1 rx=>cases ry with
    |agg hy hy1 ry=>
     rw[run_equalIn_agg w1 (d+1) T _ _ h1 h4];exact P4 hx hy rx ry d w1 _ 0 r h3 (by simpa using e)
    |dead hr _ _=>simp[AV.refs]at hr
   |dead hr _ _=>simp[AV.refs]at hr
 ·exact X8 rx ry e (d+1) w1
theorem bRa{op:BinOp}{a b:Int}{x:AV}(e:cBs op a b=some x):∃v,(Op.intCmp op a b).run P w=.ok v w∧RV X w h x v:=by
 unfold cBs at e;cases op<;>simp at e<;>subst e<;>refine⟨_,rfl,?_⟩
 ·have:(a == b)=decide (a=b):=gW _ _;rw[this];exact .b _
 ·have:(a != b) = !decide (a=b):=by rw[bne,gW]
  rw[this];exact .b _
 all_goals exact .b _
theorem bIe{op:BinOp}{T:TypeId}{k:IntKind}{a b:Int}{x:AV}(e:aRt op k a b=some x):∃v,(binOp op T (.int k a) (.int k b)).run P w=.ok v w∧RV X w h x v:=by
 unfold aRt at e;cases op;case add=>cases e;exact⟨_,by simp[binOp,Op.intArith],.i _ _⟩
 case sub=>cases e;exact⟨_,by simp[binOp,Op.intArith],.i _ _⟩
 case mul=>cases e;exact⟨_,by simp[binOp,Op.intArith],.i _ _⟩
 case quo=>
  simp only at e;split at e
  ·cases e
  ·rename_i hb;cases e;exact⟨_,by simp[binOp,Op.intDiv,hb],.i _ _⟩
 case rem=>
  simp only at e;split at e
  ·cases e
  ·rename_i hb;cases e;exact⟨_,by simp[binOp,Op.intDiv,hb],.i _ _⟩
 case shl=>simp at e
 case shr=>
  simp only at e;split at e
  ·rename_i hb;cases e;subst hb;exact⟨_,by
    have:min 1 k.bits=1:=by cases k<;>rfl
    simp[binOp,Op.shift,this,Int.fdiv_eq_ediv_of_nonneg],.i _ _⟩
  ·cases e
 case and=>simp at e
 case or=>simp at e
 case xor=>simp at e
 case andNot=>simp at e
 all_goals
  obtain⟨v,hv,r⟩:=bRa (P:=P) (X:=X) (w:=w) (h:=h) e
  exact⟨v,by simpa[binOp]using hv,r⟩
theorem bIc{op:BinOp}{T:TypeId}{a b:List UInt8}{x:AV}(e:bId op a b=some x):∃v,(binOp op T (.string ⟨a.toArray⟩) (.string ⟨b.toArray⟩)).run P w=.ok v w∧RV X w h x v:=by
 have hb:binOp op T (.string ⟨a.toArray⟩) (.string ⟨b.toArray⟩)=Op.stringOp op ⟨a.toArray⟩ ⟨b.toArray⟩:=by cases op<;>rfl
 rw[hb];have hd:(a == b)=decide (a=b):=gW _ _;unfold bId at e;cases op<;>simp at e;case add=>
  obtain⟨hl,rfl⟩:=e;refine⟨.string ⟨(a++b).toArray⟩,?_,.s _⟩;have hn:¬(((⟨a.toArray⟩:ByteArray).size+(⟨b.toArray⟩:ByteArray).size:Nat):Int)>IntKind.i64.max:=by
   rw[K8,K8];simp only[IntKind.max,IntKind.signed,IntKind.bits];simp;omega
  have happ:(⟨a.toArray⟩:ByteArray)++⟨b.toArray⟩=⟨(a++b).toArray⟩:=by
   apply ByteArray.ext;simp
  simp only[Op.stringOp,if_neg hn,eE,happ]
 all_goals(subst e;simp only[Op.stringOp,xZ,hd,eE];refine⟨_,rfl,?_⟩;first|exact .b _|(rw[Bool.not_or];exact .b _))
theorem bRz{op:BinOp}{T:TypeId}{x y z:AV}{u v:Value}(p q:Operand)(rx:RV X w h x u)(ry:RV X w h y v)(e:bIf P op T x y=some z) :
 ∃r,(do eqGuard op T p q u v;binOp op T u v:Sem Value).run P w=.ok r w∧RV X w h z r:=by
 unfold bIf at e;split at e
 ·rename_i k a l b;split at e
  ·rename_i hk;subst hk;cases rx with
   |i => cases ry with
    |i=>
     obtain⟨r,hr,rr⟩:=bIe (P:=P) (T:=T) (X:=X) (w:=w) (h:=h) e;refine⟨r,?_,rr⟩;rw[cD];have:(eqGuard op T p q (.int k a) (.int k b)).run P w=.ok () w:=by cases op<;>simp[eqGuard]
     rw[this];exact hr
    |dead hr _ _=>simp[AV.refs]at hr
   |dead hr _ _=>simp[AV.refs]at hr
  ·cases e
 ·rename_i a b;cases rx with
  |s => cases ry with
   |s=>
    obtain⟨r,hr,rr⟩:=bIc (P:=P) (T:=T) (X:=X) (w:=w) (h:=h) e;refine⟨r,?_,rr⟩;rw[cD];have:(eqGuard op T p q (.string ⟨a.toArray⟩) (.string ⟨b.toArray⟩)).run P w=.ok () w:=by cases op<;>simp[eqGuard]
    rw[this];exact hr
   |dead hr _ _=>simp[AV.refs]at hr
  |dead hr _ _=>simp[AV.refs]at hr
 ·rename_i a b;cases rx with
  |b => cases ry with
   |b =>
    split at e
    ·rename_i hu;cases e;refine⟨.bool (decide (a=b)),?_,.b _⟩;have:=run_equalIn_bool w 9999 T a b hu;simp only[eqGuard,binOp,Op.equal,Op.maxDepth];simp[this,gW]
    ·rename_i hu;cases e;refine⟨.bool (!decide (a=b)),?_,.b _⟩;have:=run_equalIn_bool w 9999 T a b hu;simp only[eqGuard,binOp,Op.equal,Op.maxDepth];simp[this,gW]
    ·cases e
   |dead hr _ _=>simp[AV.refs]at hr
  |dead hr _ _=>simp[AV.refs]at hr
 ·rename_i xs ys;have key:∀r,aEq P T (.agg xs) (.agg ys)=some r→P.eqGuardType P.depth T=false∧∃us vs,u=.agg us∧v=.agg vs∧(Op.equalIn 10000 T (.agg us) (.agg vs)).run P w=.ok r w:=by
   intro r er;have h1:=bLh rx ry er 9998 w;simp only[aEq]at er;cases hl:kR P T with
   |none=>simp[hl]at er
   |some ts=>
    refine⟨(oL hl).2.2.2.2,?_⟩;cases rx with
    |agg=>cases ry with
     |agg=>exact⟨_,_,rfl,rfl,h1⟩
     |dead hr _ _=>simp[AV.refs]at hr
    |dead hr _ _=>simp[AV.refs]at hr
  split at e
  ·cases he:aEq P T (.agg xs) (.agg ys)with
   |none=>simp[he]at e
   |some r=>
    simp[he]at e;subst e;obtain⟨hg,us,vs,rfl,rfl,hrun⟩:=key r he;refine⟨.bool r,?_,.b _⟩;rw[cD,run_eqGuard_agg w _ _ _ _ _ _ hg,bO,run_eql_struct,hrun];rfl
  ·cases he:aEq P T (.agg xs) (.agg ys)with
   |none=>simp[he]at e
   |some r=>
    simp[he]at e;subst e;obtain⟨hg,us,vs,rfl,rfl,hrun⟩:=key r he;refine⟨.bool (!r),?_,.b _⟩;rw[cD,run_eqGuard_agg w _ _ _ _ _ _ hg,bO,run_neq_struct,hrun];rfl
  ·cases e
 ·cases e
theorem cAz{op:UnOp}{x z:AV}{u:Value}(rx:RV X w h x u)(e:aUn op x=some z):∃r,(Op.unary op u).run P w=.ok r w∧RV X w h z r:=by
 unfold aUn at e;split at e
 ·cases e;cases rx with
  |b=>exact⟨_,by simp[Op.unary],.b _⟩
  |dead hr _ _=>simp[AV.refs]at hr
 ·cases e;cases rx with
  |i=>exact⟨_,by simp[Op.unary,Op.intArith],.i _ _⟩
  |dead hr _ _=>simp[AV.refs]at hr
 ·cases e
theorem bIb{s d:TypeId}{x z:AV}{u:Value}(rx:RV X w h x u)(e:aKh P s d x=some z):∃r,(convert s d u).run P w=.ok r w∧RV X w h z r:=by
 unfold aKh at e;split at e
 ·rename_i hs hd;cases e;cases rx with
  |i=>exact⟨_,by simp[convert,run_underlying hs,run_underlying hd,Conv.intToInt],.i _ _⟩
  |dead hr _ _=>simp[AV.refs]at hr
 ·rename_i hs hd;cases e;cases rx with
  |s=>exact⟨_,by simp[convert,run_underlying hs,run_underlying hd],.s _⟩
  |dead hr _ _=>simp[AV.refs]at hr
 ·cases e
end
section
variable {P:Program} {G:Glob} {X:Ctx} {w:World} {h:List AObj}
theorem zQ{T:TypeId}(hl:G4 P T=true)(empty:Bool)(n:Nat)(v:Value)(w:World):(Instr.checkKey empty (n+1) T v).run P w=.ok () w:=by
 unfold G4 at hl;cases hu:P.underlying T with
 |none=>simp[hu]at hl
 |some d=>
  simp only[Instr.checkKey,cD,run_underlying hu,bO];cases d<;>simp[hu]at hl<;>rfl
theorem uS(empty:Bool)(n:Nat)(cs:Array Value)(w:World):∀(fs:List Field) (k:Nat),k+fs.length≤cs.size→((fs.zipIdx k).all fun(f,j)=>f.name != "_" && f.offset == j&&G4 P f.type)=true →
 (forIn fs PUnit.unit fun f r=>(do
  if f.name ≠ "_" then do
   let __do_lift ← part f.type cs f.offset
   Instr.checkKey empty (n+1) f.type __do_lift
   pure (ForInStep.yield PUnit.unit)
  else pure (ForInStep.yield PUnit.unit):Sem (ForInStep PUnit))).run P w=.ok PUnit.unit w
 | [],k,_,_=>by simp
 |f::fs,k,hk,hall=>by
  simp only[aCq,oQ,aA,bne_iff_ne,ne_eq,beq_iff_eq]at hall;obtain⟨⟨⟨hn,ho⟩,hl⟩,hrest⟩:=hall;simp only[aQ]at hk;obtain⟨uk,huk⟩:∃u,cs[k]? = some u:=⟨_,bW (by omega)⟩;have h1:=N4 hl cs k uk huk w;rw[← ho]at h1;have ih:=uS empty n cs w fs (k+1) (by omega) hrest;simp only[List.forIn_cons,if_pos hn,cD,h1,zQ hl,bO,eE];exact ih
theorem Y0{T:TypeId}{k:AV}(hk:nD P T k=true)(hn:∀xs,k ≠ .agg xs):G4 P T=true:=by
 unfold nD at hk;unfold G4;cases k with
 |agg xs=>exact absurd rfl (hn xs)
 |b x=>cases hu:P.underlying T with
  |none=>simp[hu]at hk
  |some d=>cases d<;>simp[hu]at hk ⊢
 |i k x=>cases hu:P.underlying T with
  |none=>simp[hu]at hk
  |some d=>cases d<;>simp[hu]at hk ⊢
 |s x=>cases hu:P.underlying T with
  |none=>simp[hu]at hk
  |some d=>cases d<;>simp[hu]at hk ⊢
 |_=>simp at hk
theorem aGl{T:TypeId}{k:AV}{kv:Value}(empty:Bool)(hk:nD P T k=true)(r:RV X w h k kv)(w1:World)(n:Nat):(Instr.checkKey empty (n+2) T kv).run P w1=.ok () w1:=by
 by_cases hag:∃xs,k=.agg xs
 ·obtain⟨xs,rfl⟩:=hag;simp only[nD]at hk;cases hl:kR P T with
  |none=>simp[hl]at hk
  |some ts=>
   simp only[hl,beq_iff_eq]at hk;obtain⟨h1,rfl,h3,h4,h5⟩:=oL hl;cases r with
   |dead hr _ _=>simp[AV.refs]at hr
   | @agg _ vs hlen hx1 rx=>
     have:=uS empty n vs w1 (P.fieldsOf T).toList 0 (by simp at hk;simp;omega) h3;unfold Instr.checkKey;simp only[cD,run_underlying h1,bO];rw[← Array.forIn_toList,this];rfl
 ·exact zQ (Y0 hk (fun xs e=>hag ⟨xs,e⟩)) empty (n+1) kv w1
theorem Q4{T:TypeId}{k:AV}{kv:Value}(empty:Bool)(hk:nD P T k=true)(r:RV X w h k kv)(w1:World):(Instr.checkKey empty 10000 T kv).run P w1=.ok () w1:=
 aGl empty hk r w1 9998
def zG(es:List MapEntry)(i:Nat):Option Nat→Option (Nat×Value)
 |Option.none=>Option.none
 |some j=>match es[j]? with
  |some e=>some (i+j,e.val)
  |Option.none=>Option.none
theorem aPn{T:TypeId}{x y:AV}{u v:Value}{r:Bool}{d:TypeDesc}(hd:P.underlying T=some d)(rx:RV X w h x u)(ry:RV X w h y v)(e:lM P T x y=some r):Instr.sameNow d u v=some r:=by
 unfold lM at e;rw[hd]at e;cases x with
 |b x=>
  cases d<;>cases y<;>simp at e;subst e;cases rx with
  |b=>cases ry with
   |b=>simp[Instr.sameNow,gW]
   |dead hr _ _=>simp[AV.refs]at hr
  |dead hr _ _=>simp[AV.refs]at hr
 |i k x=>
  cases d<;>cases y<;>simp at e;obtain⟨rfl,rfl⟩:=e;cases rx with
  |i=>cases ry with
   |i=>simp[Instr.sameNow,gW]
   |dead hr _ _=>simp[AV.refs]at hr
  |dead hr _ _=>simp[AV.refs]at hr
 |s x =>
  cases d<;>cases y<;>simp at e;subst e;cases rx with
  |s => cases ry with
   |s=>
    simp only[Instr.sameNow,beq_toListBytes,xZ,gW]
   |dead hr _ _=>simp[AV.refs]at hr
  |dead hr _ _=>simp[AV.refs]at hr
 |_=>cases d<;>simp at e
theorem bIa{T:TypeId}{x y:AV}(hn:∀xs,x ≠ .agg xs):aEq P T x y=lM P T x y:=by
 cases x<;>first|rfl|exact absurd rfl (hn _)
theorem Y3{T:TypeId}{k:AV}{kv:Value}{d:TypeDesc}(hd:P.underlying T=some d)(hn:∀xs,k ≠ .agg xs)(rk:RV X w h k kv) :
 ∀(ks:List AV) (es:List MapEntry) (i:Nat) (r:Option Nat),ks.length=es.length→(∀(j:Nat) (a:AV) (e:MapEntry),ks[j]? = some a→es[j]? = some e→RV X w h a e.key)→gG P T k ks=some r →
  Instr.findNow d kv es i=some (zG es i r)
 | [],[],i,r,_,_,e=>by simp only[gG,aB]at e;subst e;rfl
 |x :: ks,e0::es,i,r,hl,hr,e=>by
  simp only[gG]at e;rw[bIa hn]at e;cases hx:lM P T k x with
  |none=>simp[hx]at e
  |some b=>
   cases hf:gG P T k ks with
   |none=>cases b<;>simp[hx,hf]at e
   |some r'=>
    have h1:=aPn hd rk (hr 0 x e0 rfl rfl) hx;have ih:=Y3 hd hn rk ks es (i+1) r' (by simpa using hl) (fun j a e' ha he=>hr (j+1) a e' (by simpa using ha) (by simpa using he)) hf;simp only[hx,hf]at e;cases b with
    |true=>simp at e;subst e;simp[Instr.findNow,h1,zG]
    |false=>
     simp at e;subst e;simp only[Instr.findNow,h1,ih];cases r' with
     |none=>rfl
     |some j=>
      simp only[zG,dO,bZ];cases es[j]? with
      |none=>rfl
      |some e'=>simp only[aB,bH,and_true,eK,nW 1]
 | [],_::_,_,_,hl,_,_=>by simp at hl
 |_::_,[],_,_,hl,_,_=>by simp at hl
theorem zL{T:TypeId}{k:AV}{kv:Value}(rk:RV X w h k kv)(w1:World) :
 ∀(ks:List AV) (es:List MapEntry) (i:Nat) (r:Option Nat),ks.length=es.length→(∀(j:Nat) (a:AV) (e:MapEntry),ks[j]? = some a→es[j]? = some e→RV X w h a e.key)→gG P T k ks=some r →
  (Instr.findAsking T kv es i).run P w1=.ok (zG es i r) w1
 | [],[],i,r,_,_,e=>by simp only[gG,aB]at e;subst e;rfl
 |x :: ks,e0::es,i,r,hl,hr,e=>by
  simp only[gG]at e;cases hx:aEq P T k x with
  |none=>simp[hx]at e
  |some b=>
   cases hf:gG P T k ks with
   |none=>cases b<;>simp[hx,hf]at e
   |some r'=>
    have h1:=bLh rk (hr 0 x e0 rfl rfl) hx 9998 w1;have ih:=zL rk w1 ks es (i+1) r' (by simpa using hl) (fun j a e' ha he=>hr (j+1) a e' (by simpa using ha) (by simpa using he)) hf;simp only[hx,hf]at e;cases b with
    |true=>simp at e;subst e;simp[Instr.findAsking,Op.equal,Op.maxDepth,h1,zG]
    |false=>
     simp at e;subst e;simp only[Instr.findAsking,Op.equal,Op.maxDepth,cD,h1,bO,aE,if_false,ih];cases r' with
     |none=>rfl
     |some j=>
      simp only[zG,dO,bZ];cases es[j]? with
      |none=>rfl
      |some e'=>simp only[aB,bH,and_true,eK,nW 1]
 | [],_::_,_,_,hl,_,_=>by simp at hl
 |_::_,[],_,_,hl,_,_=>by simp at hl
theorem Y4{T:TypeId}{k:AV}{kv:Value}(hk:nD P T k=true)(rk:RV X w h k kv)(w1:World)(ks:List AV)(es:List MapEntry)(r:Option Nat)(hl:ks.length=es.length)
 (hr:∀(j:Nat) (a:AV) (e:MapEntry),ks[j]? = some a→es[j]? = some e→RV X w h a e.key) (e:gG P T k ks=some r):(Instr.findKey T kv es).run P w1=.ok (zG es 0 r) w1:=by
 by_cases hag:∃xs,k=.agg xs
 ·obtain⟨xs,rfl⟩:=hag;simp only[nD]at hk;cases hlf:kR P T with
  |none=>simp[hlf]at hk
  |some ts=>
   have hu:=(oL hlf).1;have ha:=zL rk w1 ks es 0 r hl hr e;simp only[Instr.findKey,cD,run_underlying hu,bO];cases es with
   |nil=>
    have hks:ks=[]:=List.eq_nil_of_length_eq_zero hl;subst hks;simp only[gG,aB]at e;subst e;rfl
   |cons e0 es=>simpa[Instr.findNow,Instr.sameNow]using ha
 ·have hleaf:=Y0 hk (fun xs e=>hag ⟨xs,e⟩);cases hu:P.underlying T with
  |none=>simp[G4,hu]at hleaf
  |some d=>
   have:=Y3 hu (fun xs e=>hag ⟨xs,e⟩) rk ks es 0 r hl hr e;simp[Instr.findKey,run_underlying hu,this]
theorem R7{T:TypeId}{k:AV}:∀{ks:List AV} {j:Nat},gG P T k ks=some (some j)→j<ks.length
 | [],j,e=>by simp[gG]at e
 |x :: ks,j,e=>by
  simp only[gG]at e;split at e
  ·simp only[aB]at e;subst e;simp
  ·rename_i r _ hf;simp only[aB]at e;cases r with
   |none=>simp at e
   |some i=>simp at e;subst e;have:=R7 hf;simp;omega
  ·cases e
theorem bAp{m:AV}{mv:Value}{ks vs:List AV}(g:GH G X w h)(rm:RV X w h m mv)(e:rH h m=some (ks,vs)) :
 (mv=.map Option.none∧ks=[]∧vs=[])∨∃b es clock,mv=.map (some b)∧w.heap[b]? = some (.map es clock)∧ks.length=es.size∧vs.length=es.size ∧
  (∀(j:Nat) (a:AV) (e:MapEntry),ks[j]? = some a→es[j]? = some e→RV X w h a e.key)∧(∀(j:Nat) (a:AV) (e:MapEntry),vs[j]? = some a→es[j]? = some e→RV X w h a e.val):=by
 cases rm with
 |mapv hF hb hk hv hrk hrv _ _=>
  simp only[rH,aB,bH]at e;obtain⟨rfl,rfl⟩:=e;exact .inr ⟨_,_,_,rfl,hb,hk,hv,hrk,hrv⟩
 |mp hid hι=>
  simp only[rH,hid,aB,bH]at e;obtain⟨rfl,rfl⟩:=e;have ok:=g.objs _ _ hid;cases ok with
  |absent h0=>rw[h0]at hι;cases hι
  |map h0 h1 h2 h3 h4 h5 h6 h7=>
   rw[h0]at hι;cases hι;exact .inr ⟨_,_,_,rfl,h1,h4,h5,h6,h7⟩
 |p v hv=>
  unfold rH at e;split at e
  ·rename_i he;cases he
  ·rename_i he;cases he
  ·rename_i he;cases he;simp only[aB,bH]at e;obtain⟨rfl,rfl⟩:=e;exact .inl ⟨rfl,rfl,rfl⟩
  ·cases e
 |dead hr hd _=>cases m<;>simp[AV.refs]at hr<;>subst hr<;>simp[rH,hd]at e
 |_=>simp[rH]at e
theorem aOy{T:TypeId}{z:AV}(e:rK P T=some z)(w1:World):∃v,(zeroValue T).run P w1=.ok v w1∧RV X w h z v:=by
 unfold rK at e;cases hi:P.info? T with
 |none=>simp[hi]at e
 |some i=>
  cases hz:i.zero with
  |none=>simp[hi,hz]at e
  |some v=>
   simp[hi,hz]at e;subst e;exact⟨v,by simp[zeroValue,typeInfo,hi,hz],aZv v⟩
theorem aWe{T : TypeId}{m k x:AV}{mv kv:Value}{ok:Bool}(g:GH G X w h)(rm:RV X w h m mv)(rk:RV X w h k kv)(e:pO P h T m k ok=some x) :
 ∃v,(Instr.lookup T mv kv ok).run P w=.ok v w∧RV X w h x v:=by
 unfold pO at e;cases hu:P.underlying T with
 |none=>simp[hu]at e
 |some d=>
  cases d with
  |map K E =>
   simp only[hu]at e;split at e;case isFalse=>cases e
   rename_i hk;cases hm:rH h m with
   |none=>simp[hm]at e
   |some q=>
    obtain⟨ks,vs⟩:=q;cases hz:rK P E with
    |none=>simp[hm,hz]at e
    |some z=>
     simp only[hm,hz]at e;obtain⟨zv,hzr,rz⟩:=aOy (P:=P) (X:=X) (w:=w) (h:=h) hz w;obtain⟨es,hget,h1,h2,h3,h4⟩:∃es:Array MapEntry,((mv=.map Option.none∧es = #[])∨∃b clock,mv=.map (some b)∧w.heap[b]? = some (.map es clock))∧ks.length=es.size∧vs.length=es.size ∧
      (∀(j:Nat) (a:AV) (e:MapEntry),ks[j]? = some a→es[j]? = some e→RV X w h a e.key)∧(∀(j:Nat) (a:AV) (e:MapEntry),vs[j]? = some a→es[j]? = some e→RV X w h a e.val):=by
      rcases bAp g rm hm with⟨rfl,rfl,rfl⟩|⟨b,es,clock,rfl,hb,h1,h2,h3,h4⟩
      ·exact⟨#[],.inl ⟨rfl,rfl⟩,rfl,rfl,by simp,by simp⟩
      ·exact⟨es,.inr ⟨b,clock,rfl,hb⟩,h1,h2,h3,h4⟩
     have fin:∀(v:Value) (zG:Bool),(match zG with|true=>∃i,(Instr.findKey K kv es.toList).run P w=.ok (some (i,v)) w|false=>v=zv∧(Instr.findKey K kv es.toList).run P w=.ok Option.none w) →
      (Instr.lookup T mv kv ok).run P w=.ok (if ok then .tuple #[v,.bool zG]else v) w:=by
      intro v fd hfd;have hck:=Q4 es.isEmpty hk rk w;have hbody:∀(w1:World),w1=w→(Instr.lookup T mv kv ok).run P w=(((Instr.checkKey es.isEmpty 10000 K kv).run P w1).andThen fun _ w2=>((Instr.findKey K kv es.toList).run P w2).andThen fun r w3=>match r with
       |some (_,v)=>.ok (if ok then .tuple #[v,.bool true]else v) w3
       |Option.none=>((zeroValue E).run P w3).andThen fun z w4=>.ok (if ok then .tuple #[z,.bool false]else z) w4):=by
       rintro w1 rfl;rcases hget with⟨rfl,rfl⟩|⟨b,clock,rfl,hb⟩
       ·simp only[Instr.lookup,cD,run_underlying hu,bO,eE];cases(Instr.checkKey (#[]:Array MapEntry).isEmpty 10000 K kv).run P w1 with
        |halt=>rfl
        |ok _ w2=>
         simp only[bO];cases(Instr.findKey K kv (#[]:Array MapEntry).toList).run P w2 with
         |halt=>rfl
         |ok r w3=>
          simp only[bO];cases r with
          |none=>
           simp only[cD];cases(zeroValue E).run P w3 with
           |halt=>rfl
           |ok z w4=>cases ok<;>rfl
          |some q=>cases ok<;>rfl
       ·have hgo:(getObj b).run P w1=.ok (.map es clock) w1:=by simp[getObj,Sem.run,hb]
        simp only[Instr.lookup,cD,run_underlying hu,bO,eE,hgo];cases(Instr.checkKey es.isEmpty 10000 K kv).run P w1 with
        |halt=>rfl
        |ok _ w2=>
         simp only[bO];cases(Instr.findKey K kv es.toList).run P w2 with
         |halt=>rfl
         |ok r w3=>
          simp only[bO];cases r with
          |none=>
           simp only[cD];cases(zeroValue E).run P w3 with
           |halt=>rfl
           |ok z w4=>cases ok<;>rfl
          |some q=>cases ok<;>rfl
      rw[hbody w rfl,hck];cases fd with
      |true=>obtain⟨i,hi⟩:=hfd;simp only[bO,hi]
      |false=>obtain⟨rfl,hi⟩:=hfd;simp only[bO,hi,hzr]
     cases hf:gG P K k ks with
     |none=>simp[hf]at e
     |some r=>
      have hfk:=Y4 hk rk w ks es.toList r (by simpa using h1) (by simpa using h3) hf;cases r with
      |none=>
       simp only[hf,aB]at e;subst e;simp only[zG]at hfk;cases ok with
       |true=>
        refine⟨.tuple #[zv,.bool false],fin zv false ⟨rfl,hfk⟩,.tup rfl ?_⟩;intro j a v ha hv;match j with
        |0=>simp at ha hv;exact ha▸hv▸rz
        |1=>simp at ha hv;exact ha▸hv ▸ .b _
        |j+2=>simp at ha
       |false=>exact⟨zv,fin zv false ⟨rfl,hfk⟩,rz⟩
      |some j=>
       simp only[hf]at e;cases hvj:vs[j]? with
       |none=>simp[hvj]at e
       |some xj=>
        simp only[hvj,aB]at e;subst e;have hj:j<es.size:=h2▸bP hvj;have hej:es.toList[j]? = some es[j]:=by simp[hj]
        simp only[zG,hej]at hfk;have rxj:=h4 j xj es[j] hvj (by simp[hj]);cases ok with
        |true=>
         refine⟨.tuple #[es[j].val,.bool true],fin _ true ⟨_,hfk⟩,.tup rfl ?_⟩;intro i a v ha hv;match i with
         |0=>simp at ha hv;exact ha▸hv▸rxj
         |1=>simp at ha hv;exact ha▸hv ▸ .b _
         |i+2=>simp at ha
        |false=>exact⟨es[j].val,fin _ true ⟨_,hfk⟩,rxj⟩
  |_=>simp[hu]at e
theorem aTr{w:World}{b:Nat}{es:Array MapEntry}{clock:Nat}(h:w.heap[b]? = some (.map es clock)):w.shape? b=Option.none:=by simp[World.shape?,h]
end
section
variable {P:Program} {G:Glob} {X:Ctx} {w:World} {h:List AObj}
theorem E4{T:TypeId}{x y:AV}(e:lM P T x y=some true):x=y:=by
 unfold lM at e;split at e<;>simp at e
 ·rw[e]
 ·rw[e.1,e.2]
 ·rw[e]
theorem yU:∀{ts:List TypeId} {xs ys:List AV},jH P ts xs ys=some true→xs=ys
 | [],[],[],_=>rfl
 |t :: ts,x::xs,y::ys,e=>by
  simp only[jH]at e;cases ha:lM P t x y with
  |none=>simp[ha]at e
  |some a=>
   cases hb:jH P ts xs ys with
   |none=>simp[ha,hb]at e
   |some b=>
    simp[ha,hb]at e;obtain⟨rfl,rfl⟩:=e;rw[E4 ha,yU hb]
 | [],_::_,_,e=>by simp[jH]at e
 | [],[],_::_,e=>by simp[jH]at e
 |_::_,[],_,e=>by simp[jH]at e
 |_::_,_::_,[],e=>by simp[jH]at e
theorem bHz{T:TypeId}{x y:AV}(e:aEq P T x y=some true):x=y:=by
 unfold aEq at e;split at e
 ·cases hl:kR P T with
  |none=>simp[hl]at e
  |some ts=>simp only[hl]at e;rw[yU e]
 ·exact E4 e
theorem zY{T:TypeId}{k:AV}:∀{ks:List AV} {j:Nat},gG P T k ks=some (some j)→ks[j]? = some k
 | [],j,e=>by simp[gG]at e
 |x :: ks,j,e=>by
  simp only[gG]at e;split at e
  ·rename_i hx _;simp only[aB]at e;subst e;simp[bHz hx]
  ·rename_i r _ hf;simp only[aB]at e;cases r with
   |none=>simp at e
   |some i=>simp at e;subst e;simpa using zY hf
  ·cases e
structure wG(w w':World):Prop where
 heap:w'.heap=w.heap
 os:w'.os=w.os
 tape:w'.tape=w.tape
 output:w'.output=w.output
theorem wG.refl(w:World):wG w w:=⟨rfl,rfl,rfl,rfl⟩
theorem F4(old new:Value)(w:World):∃k w1,(Instr.keyThatStays old new).run P w=.ok k w1∧wG w w1∧(k=new∨k=old):=by
 unfold Instr.keyThatStays;by_cases hs:Instr.sameBits 10000 old new=true
 ·exact⟨new,w,by simp[hs],.refl w,.inl rfl⟩
 ·simp only[hs,if_false,aE,cD,run_choose];simp only[Question.forced,decide_eq_true_eq,Nat.reduceEqDiff,aE,if_false,bO,eE];split
  ·exact⟨_,_,rfl,⟨rfl,rfl,rfl,rfl⟩,.inl rfl⟩
  ·exact⟨_,_,rfl,⟨rfl,rfl,rfl,rfl⟩,.inr rfl⟩
theorem uL{T:TypeId}{m k x:AV}{mv kv xv:Value}{h':List AObj}(g:GH G X w h)(rm:RV X w h m mv)(rk:RV X w h k kv)(rx:RV X w h x xv)(e:gP P h T m k x=some h') :
 ∃w',(Instr.mapUpdate T mv kv xv).run P w=.ok () w'∧GH G X w' h'∧Tr X w h X w' h':=by
 unfold gP at e;cases hu:P.underlying T with
 |none=>simp[hu]at e
 |some d=>
 cases d with
 |map K E =>
  simp only[hu]at e;split at e;case isFalse=>cases e
  rename_i hk;cases m with
  |mp id =>
   cases hid:h[id]? with
   |none=>simp[hid]at e
   |some ob=>
   cases ob with
   |map fz ks vs=>
    cases fz with
    |true=>simp[hid]at e
    |false=>
    simp only[hid]at e;cases rm with
    |dead hr hd _=>simp[AV.refs]at hr;subst hr;rw[hid]at hd;cases hd
    |mp hid' hι=>
    rw[hid]at hid';cases hid';have ok:=g.objs _ _ hid;cases ok with
    |absent h0=>rw[h0]at hι;cases hι
    | @map _ _ _ b es clock h0 h1 h2 h3 h4 h5 h6 h7 h8 h9=>
    rw[h0]at hι;simp only[aB,bH,and_true]at hι;subst hι;have hck:=Q4 false hk rk w;have hgo:(getObj b).run P w=.ok (.map es clock) w:=by simp[getObj,Sem.run,h1]
    have hset:∀(w1:World) (es':Array MapEntry) (clock':Nat),wG w w1→(setObj b (.map es' clock')).run P w1=.ok () {w1 with heap:=w1.heap.setIfInBounds b (.map es' clock')}:=by
     intro w1 es' clock' s;simp[setObj,Sem.run,s.heap,h1]
    have hbs:b<w.heap.size:=lt_of_block h1;cases hf:gG P K k ks with
    |none=>simp[hf]at e
    |some r=>
    have hfk:=Y4 hk rk w ks es.toList r (by simpa using h4) (by simpa using h6) hf;have fin:∀(w1:World) (es':Array MapEntry) (clock':Nat) (ks' vs':List AV),wG w w1→ks'.length=es'.size→vs'.length=es'.size →
     (∀(j:Nat) (a:AV) (e:MapEntry),ks'[j]? = some a→es'[j]? = some e→RV X w h a e.key)→(∀(j:Nat) (a:AV) (e:MapEntry),vs'[j]? = some a→es'[j]? = some e→RV X w h a e.val) →
     (∀(j:Nat) (e:MapEntry),es'[j]? = some e→e.born<clock')→(∀(j k:Nat) (e e':MapEntry),es'[j]? = some e→es'[k]? = some e'→e.born=e'.born→j=k) →
     GH G X {w1 with heap:=w1.heap.setIfInBounds b (.map es' clock')} (h.set id (.map false ks' vs'))∧Tr X w h X {w1 with heap:=w1.heap.setIfInBounds b (.map es' clock')} (h.set id (.map false ks' vs')):=by
     intro w1 es' clock' ks' vs' s a1 a2 a3 a4 a5 a6;refine sC g hid h0 (h3 rfl) (by simp[AObj.like]) (by simp[s.heap]) s.os s.tape s.output ?_ ?_ ?_
     ·intro j hj;show(w1.heap.setIfInBounds b _)[j]? = _;rw[cL,if_neg (D0 hj),s.heap]
     ·intro sh hsh;rw[aTr h1]at hsh;cases hsh
     ·intro ee;refine .map (b:=b) (es:=es') (clock:=clock') h0 ?_ (fun f=>by cases f) (fun _=>h3 rfl) a1 a2 (fun j a e ha he=>(a3 j a e ha he).mono ee) (fun j a e ha he=>(a4 j a e ha he).mono ee) a5 a6;show(w1.heap.setIfInBounds b _)[b]? = _;rw[cL,if_pos rfl,if_pos (by rw[s.heap];exact hbs)]
    cases r with
    |none=>
     simp only[hf,aB]at e;subst e;simp only[zG]at hfk;refine⟨_,?_,fin w (es.push {key:=kv,val:=xv,born:=clock}) (clock+1) _ _ (.refl w) (by simp[h4]) (by simp[h5]) ?_ ?_ ?_ ?_⟩
     ·simp only[Instr.mapUpdate,cD,run_underlying hu,bO,hgo,hck,hfk,hset w _ _ (.refl w)]
     ·intro j a e ha he;rw[eN]at he;by_cases hj:j=es.size
      ·subst hj;rw[aR (by omega)]at ha;simp[h4]at ha he;subst ha;subst he;exact rk
      ·rw[if_neg hj]at he;have:=(aY.1 he).1;rw[aG (by omega)]at ha;exact h6 j a e ha he
     ·intro j a e ha he;rw[eN]at he;by_cases hj:j=es.size
      ·subst hj;rw[aR (by omega)]at ha;simp[h5]at ha he;subst ha;subst he;exact rx
      ·rw[if_neg hj]at he;have:=(aY.1 he).1;rw[aG (by omega)]at ha;exact h7 j a e ha he
     ·intro j e he;rw[eN]at he;split at he
      ·cases he;simp
      ·have:=h8 j e he;omega
     ·intro j l e e' he he' hb;rw[eN]at he he';split at he<;>split at he'
      ·omega
      ·cases he;have:=h8 l e' he';simp at hb;omega
      ·cases he';have:=h8 j e he;simp at hb;omega
      ·exact h9 j l e e' he he' hb
    |some j=>
     simp only[hf,aB]at e;subst e;have hj:=R7 hf;have hkj:=zY hf;have hje:j<es.size:=by omega
     have hej:es[j]? = some es[j]:=by simp[hje]
     have hejl:es.toList[j]? = some es[j]:=by simp[hje]
     simp only[zG,hejl,dM]at hfk;obtain⟨key',w1,hkt,s,hkk⟩:=F4 (P:=P) es[j].key kv w;have rk':RV X w h k key':=by
      rcases hkk with rfl|rfl
      ·exact rk
      ·exact h6 j k _ hkj hej
     have hmod:∀(i:Nat) (e:MapEntry),(es.modify j fun e=>{e with key:=key',val:=xv})[i]? = some e→(i=j∧e={es[j]with key:=key',val:=xv})∨(i≠j∧es[i]? = some e):=by
      intro i e he;rw[Array.getElem?_modify]at he;by_cases hij:i=j
      ·subst hij;simp[hje]at he;exact .inl ⟨rfl,he.symm⟩
      ·rw[if_neg (D0 hij)]at he;exact .inr ⟨hij,by simpa using he⟩
     refine⟨_,?_,fin w1 (es.modify j fun e=>{e with key:=key',val:=xv}) clock _ _ s (by simp[h4]) (by simp[h5]) ?_ ?_ ?_ ?_⟩
     ·simp only[Instr.mapUpdate,cD,run_underlying hu,bO,hgo,hck,hfk,hej,dO,gB,hkt,hset w1 _ _ s]
     ·intro i a e ha he;rcases hmod i e he with⟨rfl,rfl⟩|⟨hij,he⟩
      ·simp[hj]at ha;subst ha;exact rk'
      ·rw[dW (D0 hij)]at ha;exact h6 i a e ha he
     ·intro i a e ha he;rcases hmod i e he with⟨rfl,rfl⟩|⟨hij,he⟩
      ·have hjv:i<vs.length:=by omega
       simp[hjv]at ha;subst ha;exact rx
      ·rw[dW (D0 hij)]at ha;exact h7 i a e ha he
     ·intro i e he;rcases hmod i e he with⟨rfl,rfl⟩|⟨hij,he⟩
      ·exact(h8 _ _ hej:es[i].born<clock)
      ·exact h8 i e he
     ·intro i l e e' he he' hb;have old:∀(i:Nat) (e:MapEntry),(es.modify j fun e=>{e with key:=key',val:=xv})[i]? = some e→∃e0,es[i]? = some e0∧e0.born=e.born:=by
       intro i e he;rcases hmod i e he with⟨rfl,rfl⟩|⟨hij,he⟩
       ·exact⟨_,hej,rfl⟩
       ·exact⟨_,he,rfl⟩
      obtain⟨e0,a1,a2⟩:=old i e he;obtain⟨e1,b1,b2⟩:=old l e' he';exact h9 i l e0 e1 a1 b1 (by rw[a2,b2,hb])
   |_=>simp[hid]at e
  |_=>simp at e
 |_=>simp[hu]at e
theorem bBj(cs:List Value):∀(cells:Array Value) (off k:Nat),((cs.zipIdx k).foldl (fun acc (c,j)=>acc.setIfInBounds (off+j) c) cells).size=cells.size:=by
 induction cs with
 |nil=>intro cells off k;rfl
 |cons c cs ih=>intro cells off k;rw[aCq,nX,ih];simp
theorem aBc(cs:List Value):∀(cells:Array Value) (off k:Nat),off+k+cs.length≤cells.size→∀j:Nat,
 ((cs.zipIdx k).foldl (fun acc (c,j)=>acc.setIfInBounds (off+j) c) cells)[j]? = if j<off+k then cells[j]? else if j<off+k+cs.length then cs[j-(off+k)]? else cells[j]? := by
 induction cs with
 |nil=>intro cells off k hl j;simp;omega
 |cons c cs ih=>
  intro cells off k hl j;simp only[aQ]at hl;rw[aCq,nX,ih _ off (k+1) (by simp;omega)];simp only[cL,aQ];by_cases h1:j<off+k
  ·rw[if_pos (by omega),if_neg (by omega),if_pos h1]
  ·by_cases h2:j=off+k
   ·subst h2;rw[if_pos (by omega),if_pos rfl,if_pos (by omega),if_neg (by omega),if_pos (by omega)];simp
   ·rw[if_neg (by omega),if_neg h1];by_cases h3:j<off+k+(cs.length+1)
    ·rw[if_pos (by omega),if_pos h3];obtain⟨i,rfl⟩:∃i,j=off+k+1+i:=⟨j-(off+k+1),by omega⟩;have e1:off+k+1+i-(off+(k+1))=i:=by omega
     have e2:off+k+1+i-(off+k)=i+1:=by omega
     rw[e1,e2];simp
    ·rw[if_neg (by omega),if_neg h3,if_neg (by omega)]
theorem aXg(cs:List Value)(cells:Array Value)(off:Nat)(hl:off+cs.length≤cells.size) :
 (cs.zipIdx).foldl (fun acc (c,j)=>acc.setIfInBounds (off+j) c) cells=(cells.toList.take off++cs++cells.toList.drop (off+cs.length)).toArray:=by
 apply Array.ext_getElem?;intro j;rw[rP cells off cs hl];have:=aBc cs cells off 0 (by omega) j;simpa using this
theorem P3(place:Nat→Option (Nat×Nat)):∀(parts:List (Nat×AV)) (vparts:List (Nat×Value)) (cells:List AV) (vcells:Array Value) (out:List AV),
 parts.map (·.1)=vparts.map (·.1)→(∀(j:Nat) (p:Nat×AV) (q:Nat×Value),parts[j]? = some p→vparts[j]? = some q→RV X w h p.2 q.2)→cells.length=vcells.size→kF vcells →
 (∀(j:Nat) (a:AV) (v:Value),cells[j]? = some a→vcells[j]? = some v→RV X w h a v)→nU place cells parts=some out →
 ∃vout,Instr.fill place vcells vparts=some vout∧out.length=vout.size∧kF vout∧(∀(j:Nat) (a:AV) (v:Value),out[j]? = some a→vout[j]? = some v→RV X w h a v)∧vout.size=vcells.size
 | [],[],cells,vcells,out,_,_,hl,h1,hr,e=>by
   simp only[nU,aB]at e;subst e;exact⟨vcells,rfl,hl,h1,hr,rfl⟩
 |(i,a)::ps,(i',v)::qs,cells,vcells,out,hi,hp,hl,h1,hr,e=>by
  simp only[aK,iK]at hi;obtain⟨rfl,hi⟩:=hi;simp only[nU]at e;cases hpl:place i with
  |none=>simp[hpl]at e
  |some q=>
   obtain⟨off,size⟩:=q;cases hc:kY a with
   |none=>simp[hpl,hc]at e
   |some cs=>
    simp only[hpl,hc]at e;split at e;case isFalse=>cases e
    rename_i hcond;obtain⟨rfl,hle⟩:=hcond;have hpv:RV X w h a v:=hp 0 (i,a) (i,v) rfl rfl;obtain⟨hsz,hc1,hcr⟩:=hpv.cells hc;have hfold:(v.cells.zipIdx.foldl (fun cs (c,j)=>cs.setIfInBounds (off+j) c) vcells)=(vcells.toList.take off++v.cells.toList++vcells.toList.drop (off+v.cells.toList.length)).toArray:=by
     rw[← aXg v.cells.toList vcells off (by simp;omega)];rw[← Array.foldl_toList];congr 1;simp
    have hspl:(kO cells off cs).length=cells.length:=iX _ _ _ hle;have hcond:¬(v.cells.size≠cs.length∨off+v.cells.size>vcells.size):=by omega
    have hr':=uA (o:=0) (cells:=cells) (cs:=cs) (cur:=vcells) (vs:=v.cells.toList) (off:=off) (by omega) hle (by simp;omega) (Q:=RV X w h) (by simpa using hr) (by simpa using hcr);have h1':=qT (o:=0) (cells:=cells) (cur:=vcells) (vs:=v.cells.toList) (off:=off) (by omega) (by simp;omega) (fun j u _ hu=>h1 _ u hu) (yN hc1);simp only[dM]at hr' h1';have hsz':(vcells.toList.take off++v.cells.toList++vcells.toList.drop (off+v.cells.toList.length)).toArray.size=vcells.size:=by simp;omega
    obtain⟨vout,ho1,ho2,ho3,ho4,ho5⟩:=P3 place ps qs (kO cells off cs) (vcells.toList.take off++v.cells.toList++vcells.toList.drop (off+v.cells.toList.length)).toArray out hi
     (fun j p q hp' hq'=>hp (j+1) p q (by simpa using hp') (by simpa using hq')) (by rw[hspl,hsz',hl]) (by
      intro j u hu;have hj:=(aY.1 hu).1;rw[hsz']at hj;exact h1' j u (by omega) hu) hr' e
    refine⟨vout,?_,ho2,ho3,ho4,ho5.trans hsz'⟩;simp only[Instr.fill,hpl,cC,decide_eq_true_eq,ne_eq];rw[if_neg (by simpa using hcond),hfold];exact ho1
 | [],_::_,_,_,_,hi,_,_,_,_,_=>by simp at hi
 |_::_,[],_,_,_,hi,_,_,_,_,_=>by simp at hi
end
end Go.Vo
