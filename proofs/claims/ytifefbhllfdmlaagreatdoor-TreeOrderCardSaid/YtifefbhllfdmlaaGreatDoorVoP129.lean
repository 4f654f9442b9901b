/-
  The abstract layer, part Y: code over abstract states, worked out: a program that computes all ends of a run, and that its answer is a contract. It speaks of any program; no condition.
-/
import Derived.Test.YtifefbhllfdmlaaGreatDoorVoP125
import Derived.Shelf.Strings.Builder1
set_option linter.unusedVariables false
set_option linter.unusedSimpArgs false
namespace Go.Vo

abbrev Ends:=Option (List (AV × List AObj))
def aVh:Option (AV × List AObj)→Ends
 | some p=>some [p]
 | none=>none
theorem uJ {x:Option (AV × List AObj)} {l:List (AV × List AObj)} {K:AV→List AObj→Prop} (e:aVh x=some l) (k:∀ p ∈ l,K p.1 p.2):yF x K:=by
 cases x with
 | none=>cases e
 | some p=>cases e; exact k p (by simp)
def aGo {α β:Type}:List α→(α→Option (List β))→Option (List β)
 | [],_=>some []
 | p::ps,k=>match k p,aGo ps k with
   | some a,some b=>some (a++b)
   | _,_=>none
def K0 {α β:Type} (x:Option (List α)) (k:α→Option (List β)):Option (List β):=
 match x with
 | none=>none
 | some [p]=>k p
 | some l=>aGo l k
theorem K5 {α β:Type} {k:α→Option (List β)}:∀ {l:List α} {r:List β},aGo l k=some r→∀ p ∈ l,∃ a,k p=some a∧∀ x ∈ a,x ∈ r
 | [],_,_,p,hp=>by cases hp
 | q :: l,r,e,p,hp=>by
   rw [aGo] at e
   cases h1:k q with
   | none=>rw [h1] at e; cases e
   | some a=>
     cases h2:aGo l k with
     | none=>rw [h1,h2] at e; cases e
     | some b=>
       rw [h1,h2] at e
       cases e
       rcases cH.1 hp with rfl | hp
       · exact ⟨a,h1,fun x hx=>fG _ hx⟩
       · obtain ⟨c,hc,hs⟩:=K5 h2 p hp
         exact ⟨c,hc,fun x hx=>dY _ (hs x hx)⟩
theorem qU {α β:Type} {x:Option (List α)} {k:α→Option (List β)} {r:List β} (e:K0 x k=some r):∃ l,x=some l∧∀ p ∈ l,∃ a,k p=some a∧∀ y ∈ a,y ∈ r:=by
 unfold K0 at e
 split at e
 · cases e
 · rename_i p
   exact ⟨[p],rfl,fun q hq=>by rw [bA] at hq; subst hq; exact ⟨r,e,fun y hy=>hy⟩⟩
 · rename_i l _
   exact ⟨l,rfl,K5 e⟩

def DR.oldB (M:DR) (id:Nat):Bool:=Nat.blt id M.N && !M.L.contains id
def DR.mutB (M:DR) (id:Nat):Bool:=Nat.ble M.N id || M.L.contains id
theorem DR.oldB_ok {M:DR} {id:Nat} (h:M.oldB id=true):M.old id:=by
 unfold DR.oldB at h
 rw [aB,aEf] at h
 unfold DR.old
 split
 · exact h.1
 · rename_i e; refine ⟨h.1,fun hm=>?_⟩
   have h2:=h.2
   rw [e,eN,List.contains_eq_mem] at h2
   simp only [decide_eq_false_iff_not] at h2
   exact h2 hm
theorem DR.mutB_ok {M:DR} {id:Nat} (h:M.mutB id=true):M.mut id:=by
 unfold DR.mutB at h
 rw [cL,Nat.ble_eq] at h
 unfold DR.mut
 split
 · rename_i e; rw [e] at h; exact h.resolve_right (by simp)
 · rename_i e; rw [e,rF] at h; exact h
def Y7 (N:DR) (a:AV):Bool:=
 match a.refs with
 | some id=>N.oldB id
 | Option.none=>true
def Z2 (N:DR):AV→Bool
 | .e0=>true
 | .hs id _ _ _=>N.mutB id
 | .ptr id _=>N.mutB id
 | _=>false
def yG (N:DR):List AV→Bool
 | []=>true
 | a::l=>Y7 N a && yG N l
theorem aFp {N:DR} {a:AV} (h:Y7 N a=true):kU N a:=by
 unfold Y7 at h; unfold kU
 cases hr:a.refs with
 | none=>trivial
 | some id=>rw [hr] at h; exact DR.oldB_ok h
theorem E1 {N:DR} {a:AV} (h:Z2 N a=true):vH N a:=by
 cases a with
 | e0=>trivial
 | hs=>exact DR.mutB_ok h
 | ptr=>exact DR.mutB_ok h
 | _=>cases h
theorem qN {N:DR}:∀ {l:List AV},yG N l=true→pN N l
 | [],_=>trivial
 | a::l,h=>by
   rw [yG,aB] at h
   exact ⟨aFp h.1,qN h.2⟩
def bBc (ev:Operand→AV) (N:DR) (op:Op):Bool:=
 match op with
 | .call c=>match c.callee with
   | .builtin .append=>match c.args.toList.map ev with
     | [s,_]=>Z2 N s
     | _=>false
   | .value _=>true
   | _=>yG N (op.operands.toList.map ev)
 | .store _ a _=>Z2 N (ev a)
 | .buildSlice .. => true
 | op=>yG N (op.operands.toList.map ev)
theorem aTg {G:Glob} {N:DR} {op:Op} {env:List AV} (h:bBc (aev G env) N op=true):J6 G N op env:=by
 cases op with
 | call c=>
   obtain ⟨callee,args,ats⟩:=c
   cases callee with
   | value f=>exact trivial
   | invoke a b=>exact qN h
   | builtin b=>
     cases b with
     | append=>
       simp only [bBc] at h
       simp only [J6]
       split at h
       · rename_i s x hh; rw [hh]; exact E1 h
       · cases h
     | _=>exact qN h
 | store T a v=>exact E1 h
 | buildSlice T n ps=>trivial
 | _=>exact qN h
def ckB (ev:Operand→AV) (dr:Option DR) (ck:Bool) (op:Op):Bool:=
 match ck,dr with
 | true,some N=>bBc ev N op
 | _,_=>true
theorem bHy {G:Glob} {dr:Option DR} {ck:Bool} {op:Op} {env:List AV} (h:ckB (aev G env) dr ck op=true):aGg G dr ck op env:=by
 unfold ckB at h; unfold aGg
 split at h
 · exact aTg h
 · rename_i hne
   split
   · rename_i N; exact absurd rfl (hne N rfl)
   · trivial

inductive ET where
 | lf (x:AV)
 | nd (l r:ET)
def ET.get:ET→Nat→AV
 | .lf x,_=>x
 | .nd l r,i=>match Nat.mod i 2 with
   | 0=>l.get (Nat.div i 2)
   | _+1=>r.get (Nat.div i 2)
def ET.set:ET→Nat→AV→ET
 | .lf _,_,y=>.lf y
 | .nd l r,i,y=>match Nat.mod i 2 with
   | 0=>.nd (l.set (Nat.div i 2) y) r
   | _+1=>.nd l (r.set (Nat.div i 2) y)
def ET.setK {α:Type}:ET→Nat→AV→(ET→α)→α
 | .lf _,_,y,k=>k (.lf y)
 | .nd l r,i,y,k=>match Nat.mod i 2 with
   | 0=>l.setK (Nat.div i 2) y fun l'=>k (.nd l' r)
   | _+1=>r.setK (Nat.div i 2) y fun r'=>k (.nd l r')
def ET.full:Nat→ET→Prop
 | 0,.lf _=>True
 | k+1,.nd l r=>l.full k∧r.full k
 | _,_=>False
def ET.mk:Nat→ET
 | 0=>.lf .u
 | k+1=>.nd (ET.mk k) (ET.mk k)
theorem ET.setK_eq {α:Type}:∀ (e:ET) (i:Nat) (y:AV) (k:ET→α),e.setK i y k=k (e.set i y)
 | .lf _,i,y,k=>rfl
 | .nd l r,i,y,k=>by
   rw [ET.setK,ET.set]
   split
   · rw [ET.setK_eq l]
   · rw [ET.setK_eq r]
theorem ET.full_mk:∀ k,(ET.mk k).full k
 | 0=>trivial
 | k+1=>⟨ET.full_mk k,ET.full_mk k⟩
theorem ET.full_set:∀ (k:Nat) (e:ET) (i:Nat) (y:AV),e.full k→(e.set i y).full k
 | 0,.lf _,i,y,h=>trivial
 | k+1,.nd l r,i,y,h=>by
   rw [ET.set]
   split
   · exact ⟨ET.full_set k l _ y h.1,h.2⟩
   · exact ⟨h.1,ET.full_set k r _ y h.2⟩
 | 0,.nd _ _,_,_,h=>h.elim
 | _+1,.lf _,_,_,h=>h.elim
theorem ET.get_set:∀ (k:Nat) (e:ET) (i j:Nat) (y:AV),e.full k→i < 2 ^ k→j < 2 ^ k→(e.set i y).get j=if i=j then y else e.get j
 | 0,.lf x,i,j,y,h,hi,hj=>by
   have:i=j:=by simp at hi hj; omega
   rw [if_pos this]; rfl
 | k + 1,.nd l r,i,j,y,h,hi,hj=>by
   have e1:Nat.mod i 2=i % 2:=rfl
   have e2:Nat.mod j 2=j % 2:=rfl
   have e3:Nat.div i 2=i / 2:=rfl
   have e4:Nat.div j 2=j / 2:=rfl
   have hi2:i / 2 < 2 ^ k:=by rw [Nat.pow_succ] at hi; omega
   have hj2:j / 2 < 2 ^ k:=by rw [Nat.pow_succ] at hj; omega
   have gl:=ET.get_set k l (i / 2) (j / 2) y h.1 hi2 hj2
   have gr:=ET.get_set k r (i / 2) (j / 2) y h.2 hi2 hj2
   rw [ET.set]
   rcases Nat.mod_two_eq_zero_or_one i with a | a <;> rcases Nat.mod_two_eq_zero_or_one j with b | b <;> simp only [ET.get,e1,e2,e3,e4,a,b]
   · rw [gl]; by_cases hij:i=j
     · rw [if_pos hij,if_pos (by omega)]
     · rw [if_neg hij,if_neg (by omega)]
   · rw [if_neg (by omega)]
   · rw [if_neg (by omega)]
   · rw [gr]; by_cases hij:i=j
     · rw [if_pos hij,if_pos (by omega)]
     · rw [if_neg hij,if_neg (by omega)]
 | 0,.nd _ _,_,_,_,h,_,_=>h.elim
 | _+1,.lf _,_,_,_,h,_,_=>h.elim
theorem ET.get_mk:∀ (k i:Nat),(ET.mk k).get i=.u
 | 0,i=>rfl
 | k+1,i=>by
   rw [ET.mk,ET.get]
   split
   · exact ET.get_mk k _
   · exact ET.get_mk k _
def evT (G:Glob) (n:Nat) (e:ET):Operand→AV
 | .tmp t=>match Nat.blt t n with
   | true=>e.get t
   | false=>.u
 | .const v=>aWr v
 | .global g=>(G g).getD .u
 | .func f=>.fn f [] []
structure L7 (n k:Nat) (e:ET) (env:List AV):Prop where
 len:env.length=n
 le:n≤2 ^ k
 full:e.full k
 get:∀ t,t < n→e.get t=env.getD t .u
theorem aNo {t n:Nat}:Nat.blt t n=decide (t < n):=by
 by_cases h:t < n
 · rw [decide_eq_true h,aEf]; exact h
 · rw [decide_eq_false h]; exact gV.2 fun e=>h (by rwa [aEf] at e)
theorem L7.ev {n k:Nat} {e:ET} {env:List AV} (r:L7 n k e env) (G:Glob):evT G n e=aev G env:=by
 funext x
 cases x with
 | tmp t=>
   simp only [evT,aev]
   by_cases h:t < n
   · simp only [aNo,decide_eq_true h]; exact r.get t h
   · have h3:env.length≤t:=by
       rw [r.len]; exact Nat.le_of_not_lt h
     simp only [aNo,decide_eq_false h]
     rw [jA,jG h3]; rfl
 | _=>rfl
theorem L7.put {n k:Nat} {e:ET} {env:List AV} (r:L7 n k e env) {d:Nat} (hd:d < n) (y:AV):L7 n k (e.set d y) (env.set d y):=by
 refine ⟨by simp [r.len],r.le,ET.full_set k e d y r.full,fun t ht=>?_⟩
 have hk:=r.le
 have hl:=r.len
 rw [ET.get_set k e d t y r.full (by omega) (by omega)]
 by_cases h:d=t
 · subst h; simp [List.getD,hl,hd]
 · rw [if_neg h,r.get t ht]; simp [List.getD,h]
def aLs {α:Type} (m:Nat) (k:Nat→α):α:=match m with
 | 0=>k 0
 | m+1=>k (Nat.succ m)
def aLu {α:Type} (n:Int) (k:Int→α):α:=match n with
 | .ofNat m=>aLs m fun m=>k (.ofNat m)
 | .negSucc m=>aLs m fun m=>k (.negSucc m)
def aLq {α:Type} (a:AV) (k:AV→α):α:=match a with
 | .u=>k .u
 | .b true=>k (.b true)
 | .b false=>k (.b false)
 | .i kd n=>aLu n fun n=>k (.i kd n)
 | .s l=>k (.s l)
 | .p v=>k (.p v)
 | .e0=>k .e0
 | .sl a n=>k (.sl a n)
 | .own s a n=>k (.own s a n)
 | .hs a b c d=>k (.hs a b c d)
 | .ptr a b=>k (.ptr a b)
 | .box a n=>k (.box a n)
 | .mp a=>k (.mp a)
 | .mapv a b=>k (.mapv a b)
 | .fn f a b=>k (.fn f a b)
 | .agg a=>k (.agg a)
 | .tup a=>k (.tup a)
theorem aLr {α:Type} (m:Nat) (k:Nat→α):aLs m k=k m:=by cases m <;> rfl
theorem aLt {α:Type} (m:Int) (k:Int→α):aLu m k=k m:=by cases m <;> (simp only [aLu]; rw [aLr])
theorem aLp {α:Type} (a:AV) (k:AV→α):aLq a k=k a:=by
 cases a with
 | b x=>cases x <;> rfl
 | i kd n=>simp only [aLq]; rw [aLt]
 | _=>rfl
def S9 {α:Type}:List AObj→(List AObj→α)→α
 | [],k=>k []
 | o::h,k=>S9 h fun h'=>k (o::h')
theorem S8 {α:Type}:∀ (h:List AObj) (k:List AObj→α),S9 h k=k h
 | [],k=>rfl
 | o::h,k=>by rw [S9,S8]
abbrev aBe:=Bool→FuncId→List AV→List AObj→Ends
def bMw (P : Program) (ev:Operand→AV) (h:List AObj):Op→Option (AV × List AObj)
 | .move x | .assign x=>some (ev x,h)
 | .pick c a b=>match ev c with
   | .b t=>some (if t then ev a else ev b,h)
   | _=>Option.none
 | .alloc T=>match zeroOf P T with
   | some cells=>some (.ptr h.length 0,h++[.box false cells])
   | Option.none=>Option.none
 | .box _ x=>match iZ (ev x) with
   | some cells=>some (.ptr h.length 0,h++[.box false cells])
   | Option.none=>Option.none
 | .build T parts=>match gN P T,zeroOf P T with
   | some pl,some z=>match lN (fun i=>pl[i]?) z (parts.toList.map fun (i,x)=>(i,ev x)) with
     | some cells=>some (.agg cells,h)
     | Option.none=>Option.none
   | _,_=>Option.none
 | .buildSlice T len parts=>match eI P T with
   | some e=>match zeroOf P e with
     | some z=>if kB P e=some z.length∧0 < z.length∧len * z.length≤65536 then
         (if len=0∧parts.toList=[] then some (.e0,h) else match lN (fun i=>some (i * z.length,z.length)) (List.replicate len z).flatten (parts.toList.map fun (i,x)=>(i,ev x)) with
           | some cells=>some (.hs h.length 0 len false,h++[.arr false z.length cells])
           | Option.none=>Option.none) else Option.none
     | Option.none=>Option.none
   | Option.none=>Option.none
 | .load T a=>match tZ P T h (ev a) with
   | some v=>some (v,h)
   | Option.none=>Option.none
 | .store T a x=>match rL P h T (ev a) (ev x) with
   | some h'=>some (.u,h')
   | Option.none=>Option.none
 | .nilCheck x=>match ev x with
   | .ptr id off=>match h[id]? with | some (.box ..) | some (.arr ..) | some (.held false _)=>some (.ptr id off,h) | _=>Option.none
   | .box cells off=>some (.box cells off,h)
   | .fn f a b=>some (.fn f a b,h)
   | _=>Option.none
 | .binOp op T x y _=>match aUp P op T (ev x) (ev y) with
   | some v=>some (v,h)
   | Option.none=>Option.none
 | .unOp op _ x=>match aUn op (ev x) with
   | some v=>some (v,h)
   | Option.none=>Option.none
 | .convert s d x=>match aGy P s d (ev x) with
   | some v=>some (v,h)
   | Option.none=>Option.none
 | .makeFunc (.func f) first capt=>some (.fn f (first.toList.map ev) (capt.toList.map ev),h)
 | .makeMap T Option.none=>some (.mp h.length,h++[.map false [] []])
 | .makeSlice T l c=>nT P h T (ev l) (ev c)
 | .slice T x l hi m=>match oW P h T (ev x) (l.map ev) (hi.map ev) (m.map ev) with
   | some v=>some (v,h)
   | Option.none=>Option.none
 | .fieldAddr S x f=>match jU P S f with
   | some (fo,ft)=>match kB P ft with
     | some (_+1)=>match ev x with
       | .ptr id off=>match h[id]? with | some (.box ..) | some (.arr ..) | some (.held false _)=>some (.ptr id (off+fo),h) | _=>Option.none
       | .box cells off=>some (.box cells (off+fo),h)
       | _=>Option.none
     | _=>Option.none
   | Option.none=>Option.none
 | .field T x f=>match ev x,jU P T f with
   | .agg cs,some (fo,ft)=>match apart P ft cs fo with
     | some v=>some (v,h)
     | Option.none=>Option.none
   | _,_=>Option.none
 | .indexAddr T x i=>match iJ P h T (ev x) (ev i) with
   | some v=>some (v,h)
   | Option.none=>Option.none
 | .index T x i=>match zX P T (ev x) (ev i) with
   | some v=>some (v,h)
   | Option.none=>Option.none
 | .lookup T m k ok=>match mH P h T (ev m) (ev k) ok with
   | some v=>some (v,h)
   | Option.none=>Option.none
 | .mapUpdate T m k x=>match eO P h T (ev m) (ev k) (ev x) with
   | some h'=>some (.u,h')
   | Option.none=>Option.none
 | .extract t i=>match ev t with
   | .tup vs=>match vs[i]? with
     | some v=>some (v,h)
     | Option.none=>Option.none
   | _=>Option.none
 | .makeInterface T x=>match P.underlying T with
   | Option.none | some (.interface _)=>Option.none
   | some _=>match toV (ev x) with
     | some v=>some (.p (.iface T v),h)
     | Option.none=>Option.none
 | .call c=>match c.callee with
   | .builtin b=>iX P h b c.argTypes (c.args.toList.map ev)
   | _=>Option.none
 | _=>Option.none
theorem bBr {P:Program} {G:Glob} {env:List AV} {h:List AObj} (o:Op):bMw P (aev G env) h o=aop P G env h o:=by
 cases o with
 | makeFunc f a b=>cases f <;> rfl
 | makeMap T r=>cases r <;> rfl
 | _=>rfl
section
variable (P:Program) (ev:Operand→AV) (cx:aBe)
def aEe (dr:Bool) (h:List AObj) (c:Call):Ends:=
 match c.callee with
 | .builtin .append=>match c.argTypes.toList,c.args.toList.map ev with
   | [T,U],[s,x]=>if T=U then (if jL h x then aVh (fJ P h T s x) else aVh (fJ P (freeze (dJ dep h x) h) T s (fU dep h x))) else (match P.underlying U with | some (.int _)=>aVh (nR P h T s x) | _=>none)
   | _,_=>none
 | .builtin b=>aVh (iX P h b c.argTypes (c.args.toList.map ev))
 | .value fx=>match ev fx with
   | .fn f first capt=>cx dr f (first++c.args.toList.map ev++capt) h
   | _=>none
 | .invoke .. => none
def wG (dr:Bool) (o:Op) (h:List AObj):Ends:=
 match o with
 | .call c=>aEe P ev cx dr h c
 | .mapUpdate T m k x=>if pers (ev x) then (match eO P h T (ev m) (ev k) (ev x) with
     | some h'=>some [(.u,h')]
     | Option.none=>none)
   else (match eO P (freeze (dJ dep h (ev x)) h) T (ev m) (ev k) (fU dep h (ev x)) with
     | some h'=>some [(.u,h')]
     | Option.none=>none)
 | .range T x=>if dr then none else match P.underlying T,fU dep h (ev x) with
   | some (.map _ _),.mapv ks vs=>some [(.ptr (freeze (dJ dep h (ev x)) h).length 0,freeze (dJ dep h (ev x)) h++[.mit none ks vs])]
   | some .string,.s l=>some [(.ptr (freeze (dJ dep h (ev x)) h).length 0,freeze (dJ dep h (ev x)) h++[.sit l 0])]
   | _,_=>none
 | .next x false=>if dr then none else match ev x with
   | .ptr id 0=>match h[id]? with
     | some (.mit _ [] vs)=>some [(.tup [.b false],h)]
     | some (.mit _ ks vs)=>some (((List.range ks.length).filterMap fun j=>match ks[j]?,vs[j]? with
       | some k,some v=>some (.tup [.b true,k,v],h.set id (.mit (some (k,v)) (ks.eraseIdx j) (vs.eraseIdx j)))
       | _,_=>none))
     | _=>none
   | _=>none
 | .next x true=>if dr then none else match ev x with
   | .ptr id 0=>match h[id]? with
     | some (.sit l pos)=>match l[pos]? with
       | none=>some [(.tup [.b false],h)]
       | some c=>if c.toNat < 128 then some [(.tup [.b true,.i .i64 pos,.i .i32 c.toNat],h.set id (.sit l (pos+1)))] else none
     | _=>none
   | _=>none
 | .entry x=>if dr then none else match ev x with
   | .ptr id 0=>match h[id]? with
     | some (.mit (some (k,v)) _ _)=>some [(.tup [k,v],h)]
     | _=>none
   | _=>none
 | .buildSlice T len ps=>aVh (if (dr && aGe ps.toList)=true then (aTs P T len ps).map fun v=>(v,h) else bMw P ev h (.buildSlice T len ps))
 | o=>aVh (bMw P ev h o)
def bNg (T:TypeId) (v:AV) (h:List AObj):Ends:=
 match P.underlying T with
 | some (.slice _)=>(match v with
   | .e0=>some [(.b true,h),(.b false,h)]
   | .sl _ n=>if n=0 then some [(.b true,h),(.b false,h)] else some [(.b false,h)]
   | _=>none)
 | _=>none
def bJy (dr:Option DR) (op:Op) (h:List AObj):Ends:=
 match eH op,dr with
 | some (T,x),Option.none=>bNg P T (ev x) h
 | _,_=>match oZ P ev op with
   | some (sz,cells)=>(match dr with
     | Option.none=>some [(.ptr h.length 0,h++[.arr false sz cells])]
     | some _=>wG P ev cx dr.isSome op h)
   | Option.none=>wG P ev cx dr.isSome op h
end
mutual
def G2:AV→AV→Bool
 | .b x,.b y=>x == y
 | .i k n,.i l m=>decide (k=l) && decide (n=m)
 | .s a,.s b=>decide (a=b)
 | .e0,.e0=>true
 | .sl a n,.sl b m=>avEqL a b && decide (n=m)
 | .agg a,.agg b=>avEqL a b
 | .tup a,.tup b=>avEqL a b
 | .box a n,.box b m=>avEqL a b && decide (n=m)
 | .mapv a b,.mapv c d=>avEqL a c && avEqL b d
 | .fn f a b,.fn g c d=>decide (f=g) && avEqL a c && avEqL b d
 | .own s a n,.own z b m=>decide (s=z) && avEqL a b && decide (n=m)
 | .u,.u=>true
 | .hs a b c d,.hs a' b' c' d'=>decide (a=a') && decide (b=b') && decide (c=c') && (d == d')
 | .ptr a b,.ptr a' b'=>decide (a=a') && decide (b=b')
 | .mp a,.mp a'=>decide (a=a')
 | _,_=>false
def avEqL:List AV→List AV→Bool
 | [],[]=>true
 | x::xs,y::ys=>G2 x y && avEqL xs ys
 | _,_=>false
end
mutual
theorem aAx:∀ (x y:AV),G2 x y=true→x=y
 | .b x,.b y,h=>by simp [G2] at h; rw [h]
 | .i k n,.i l m,h=>by simp [G2] at h; rw [h.1,h.2]
 | .s a,.s b,h=>by simp [G2] at h; rw [h]
 | .e0,.e0,_=>rfl
 | .sl a n,.sl b m,h=>by simp [G2] at h; rw [avEqL_ok a b h.1,h.2]
 | .agg a,.agg b,h=>by rw [G2] at h; rw [avEqL_ok a b h]
 | .tup a,.tup b,h=>by rw [G2] at h; rw [avEqL_ok a b h]
 | .box a n,.box b m,h=>by simp [G2] at h; rw [avEqL_ok a b h.1,h.2]
 | .mapv a b,.mapv c d,h=>by simp [G2] at h; rw [avEqL_ok a c h.1,avEqL_ok b d h.2]
 | .fn f a b,.fn g c d,h=>by simp [G2] at h; rw [h.1.1,avEqL_ok a c h.1.2,avEqL_ok b d h.2]
 | .own s a n,.own z b m,h=>by simp [G2] at h; rw [h.1.1,avEqL_ok a b h.1.2,h.2]
 | .own _ _ _,.u,h=>by simp [G2] at h
 | .u,y,h=>by cases y <;> first | rfl | simp [G2] at h
 | .p _,y,h=>by cases y <;> simp [G2] at h
 | .hs _ _ _ _,y,h=>by
   cases y <;> simp [G2] at h
   rw [h.1.1.1,h.1.1.2,h.1.2,h.2]
 | .ptr _ _,y,h=>by
   cases y <;> simp [G2] at h
   rw [h.1,h.2]
 | .mp _,y,h=>by
   cases y <;> simp [G2] at h
   rw [h]
theorem avEqL_ok:∀ (xs ys:List AV),avEqL xs ys=true→xs=ys
 | [],[],_=>rfl
 | x::xs,y::ys,h=>by
   rw [avEqL,aB] at h
   rw [aAx x y h.1,avEqL_ok xs ys h.2]
 | [],_::_,h=>by simp [avEqL] at h
 | _::_,[],h=>by simp [avEqL] at h
end

def aYy:AObj→AObj→Bool
 | .dead,.dead=>true
 | .box _ a,.box _ b=>avEqL a b
 | .arr _ s a,.arr _ t b=>decide (s=t) && avEqL a b
 | .map _ a b,.map _ c d=>avEqL a c && avEqL b d
 | _,_=>false
theorem aQt {o o':AObj} (h:aYy o o'=true):o'.strip=o.strip:=by
 cases o <;> cases o' <;> simp [aYy] at h
 · rfl
 · rw [avEqL_ok _ _ h]; rfl
 · rw [h.1,avEqL_ok _ _ h.2]; rfl
 · rw [avEqL_ok _ _ h.1,avEqL_ok _ _ h.2]; rfl
def aFx (N:DR):Nat→List AObj→List AObj→Bool
 | _,[],_=>true
 | i,o::l,o'::l'=>(!N.oldB i || aYy o o') && aFx N (i+1) l l'
 | i,o::l,[] => !N.oldB i && aFx N (i+1) l []
theorem aCd {M:DR} {id:Nat} (h:M.old id):M.oldB id=true:=by
 unfold DR.oldB
 unfold DR.old at h
 split at h
 · rename_i e; rw [e,aB,aEf]; exact ⟨h,rfl⟩
 · rename_i x l e; rw [aB,aEf]; refine ⟨h.1,?_⟩
   rw [e,eN,List.contains_eq_mem,decide_eq_false_iff_not]
   exact h.2
theorem I4 {N:DR}:∀ {h h':List AObj} {i:Nat},aFx N i h h'=true→∀ (k:Nat) (o:AObj),N.old (i+k)→h[k]? = some o→∃ o',h'[k]? = some o'∧o'.strip=o.strip
 | [],_,_,_,k,o,_,hk=>by simp at hk
 | o0::l,o1::l',i,e,k,o,hn,hk=>by
   rw [aFx,aB] at e
   cases k with
   | zero=>
     simp only [bP,aA] at hk
     subst hk
     have e1:=e.1
     rw [aCd (by simpa using hn)] at e1
     exact ⟨o1,rfl,aQt (by simpa using e1)⟩
   | succ k=>
     have:=I4 e.2 k o (by rw [show i+1+k=i+(k+1) by omega]; exact hn) (by simpa using hk)
     simpa using this
 | o0::l,[],i,e,k,o,hn,hk=>by
   rw [aFx,aB] at e
   cases k with
   | zero=>
     have e1:=e.1
     rw [aCd (by simpa using hn)] at e1
     simp at e1
   | succ k=>
     obtain ⟨o',h1,_⟩:=I4 e.2 k o (by rw [show i+1+k=i+(k+1) by omega]; exact hn) (by simpa using hk)
     simp at h1
def aWv (ev:Operand→AV) (cx:aBe) (N:DR) (c:Call) (h:List AObj):Ends:=
 match c.callee with
 | .value fx=>match ev fx with
   | .fn f first capt=>match cx false f (first++c.args.toList.map ev++capt) h with
     | some [(x,h')]=>if aFx N 0 h (freeze (dJ dep h' x) h')=true then some [(fU dep h' x,freeze (dJ dep h' x) h')] else none
     | _=>none
   | _=>none
 | _=>none
def aPw (P:Program) (ev:Operand→AV) (cx:aBe) (dr:Option DR) (ck:Bool) (op:Op) (h:List AObj):Ends:=
 match vOp dr ck op with
 | some (T,len,ps)=>aVh ((aGr P ev T len ps).map fun v=>(v,h))
 | Option.none=>match zOp dr ck op with
   | some (c,N)=>aWv ev cx N c h
   | Option.none=>bJy P ev cx dr op h
def bCy:Op→Bool
 | .move _ | .assign _ | .pick .. | .load .. | .nilCheck _ | .binOp .. | .unOp .. | .convert .. | .slice .. | .fieldAddr .. | .field .. | .indexAddr .. | .index .. | .lookup .. | .extract .. | .build .. => false
 | _=>true
section
variable (P:Program) (G:Glob) (cx:aBe) (n:Nat)
def bDo {α:Type} (e:ET) (dst:Option Nat) (y:AV) (k:ET→Option α):Option α:=
 match dst with
 | none=>k e
 | some d=>match Nat.blt d n with
   | true=>aLq y fun y=>e.setK d y k
   | false=>none
def aKe (dr:Option DR):List fI→ET→List AObj→Option (List (ET × List AObj))
 | [],e,h=>some [(e,h)]
 | o :: os,e,h=>
   let go:Option (List (ET × List AObj)):=match ckB (evT G n e) dr o.ck o.op with
     | true=>K0 (aPw P (evT G n e) cx dr o.ck o.op h) fun p=>bDo n e o.dst p.1 fun e'=>match bCy o.op with
       | true=>S9 p.2 fun h'=>aKe dr os e' h'
       | false=>aKe dr os e' p.2
     | false=>none
   match o.gd with
   | Option.none=>go
   | some (t,want)=>match wS (evT G n e (.tmp t)) want with
     | .b true=>go
     | .b false=>bDo n e o.dst (.tup []) fun e'=>aKe dr os e' h
     | _=>none
abbrev aUs:=Exit × ET × List AObj
def aKu (B:ET→List AObj→Option (List aUs)):Nat→ET→List AObj→Option (List aUs)
 | 0,_,_=>none
 | n+1,env,h=>K0 (B env h) fun p=>match p.1 with
   | .normal=>aKu B n p.2.1 p.2.2
   | e=>some [p]
def pZ (m:Nat):lD→ET→List AObj→Option (List aUs)
 | .skip,env,h=>some [(.normal,env,h)]
 | .region ops,env,h=>K0 (aKe P G cx n Option.none ops env h) fun p=>some [(.normal,p)]
 | .draw th ops,env,h=>K0 (aKe P G cx n (some (bOn th h.length)) ops env h) fun p=>some [(.normal,p)]
 | .seq a b,env,h=>K0 (pZ m a env h) fun p=>match p.1 with
   | .normal=>pZ m b p.2.1 p.2.2
   | e=>some [p]
 | .cond c a b,env,h=>match evT G n env c with
   | .b true=>pZ m a env h
   | .b false=>pZ m b env h
   | _=>none
 | .block id c,env,h=>K0 (pZ m c env h) fun p=>match p.1 with
   | .exit i=>if i=id then some [(.normal,p.2)] else some [p]
   | e=>some [p]
 | .loop c,env,h=>aKu (pZ m c) m env h
 | .exit id,env,h=>some [(.exit id,env,h)]
 | .ret,env,h=>some [(.ret,env,h)]
end

def A4 (P:Program) (G:Glob) (cx:aBe):Prop:=
 ∀ dr f A h l,cx dr f A h=some l→∀ K:AV→List AObj→Prop,(∀ p ∈ l,K p.1 p.2)→B8 P G (fun _ _=>False) dr f A h K
section
variable {P:Program} {G:Glob} {cx:aBe}
theorem aVl {α β:Type} {K:α→β→Prop} {a:α} {b:β} (k:∀ p ∈ [(a,b)],K p.1 p.2):K a b:=k (a,b) (bZ _)
theorem aDt (hc:A4 P G cx) {dr:Bool} {o:Op} {env:List AV} {h:List AObj} {l:List (AV × List AObj)} {K:AV→List AObj→Prop} (e:wG P (aev G env) cx dr o h=some l) (k:∀ p ∈ l,K p.1 p.2):eK P G dr o K env h:=by
 cases o with
 | call c=>
   obtain ⟨callee,args,ats⟩:=c
   cases callee with
   | value f=>
     simp only [wG,aEe] at e
     simp only [eK,mO]
     split at e
     · rename_i hh; rw [hh]; exact hc _ _ _ _ _ e K k
     · cases e
   | invoke a b=>cases e
   | builtin b=>
     cases b with
     | append=>
       simp only [wG,aEe] at e
       simp only [eK,mO]
       split at e
       · rename_i T U s x h1 h2
         rw [h1,h2]
         by_cases hT:T=U
         · simp only [hT,if_true] at e ⊢
           split at e
           · rename_i hw; rw [if_pos hw]; exact uJ e k
           · rename_i hw; rw [if_neg hw]; exact uJ e k
         · simp only [hT,if_false] at e ⊢
           split at e
           · rename_i hu; rw [hu]; exact uJ e k
           · cases e
       · cases e
     | _=>
       simp only [wG,aEe] at e
       simp only [eK,mO]
       exact uJ e k
 | mapUpdate T m ky x=>
   simp only [wG] at e
   simp only [eK]
   split at e
   · rename_i hp
     rw [if_pos hp]
     split at e
     · rename_i hh; rw [hh]; cases e; exact aVl (K:=K) k
     · cases e
   · rename_i hp
     rw [if_neg hp]
     split at e
     · rename_i hh; rw [hh]; cases e; exact aVl (K:=K) k
     · cases e
 | range T x=>
   simp only [wG] at e
   simp only [eK]
   split at e
   · cases e
   rename_i hd
   rw [if_neg hd]
   split at e
   · rename_i h1 h2; rw [h1,h2]; cases e; exact aVl (K:=K) k
   · rename_i h1 h2; rw [h1,h2]; cases e; exact aVl (K:=K) k
   · cases e
 | next x b=>
   cases b with
   | false=>
     simp only [wG] at e
     simp only [eK]
     split at e
     · cases e
     rename_i hd
     rw [if_neg hd]
     split at e
     · rename_i id h1
       rw [h1]
       try dsimp only
       split at e
       · rename_i c vs h2
         simp only [h2]
         cases e
         refine ⟨fun _=>aVl (K:=K) k,fun j a b ha=>by simp at ha⟩
       · rename_i c ks vs hne h2
         simp only [h2]
         cases e
         refine ⟨fun h0=>(hne h0).elim,fun j a b ha hb=>k (_,_) ?_⟩
         rw [List.mem_filterMap]
         refine ⟨j,?_,by rw [ha,hb]⟩
         rw [jP]
         exact (eL.1 ha).1
       · cases e
     · cases e
   | true=>
     simp only [wG] at e
     simp only [eK]
     split at e
     · cases e
     rename_i hd
     rw [if_neg hd]
     split at e
     · rename_i id h1
       rw [h1]
       try dsimp only
       split at e
       · rename_i s pos h2
         simp only [h2]
         split at e
         · rename_i h3
           cases e
           refine ⟨fun _=>aVl (K:=K) k,fun c hc=>?_⟩
           rw [h3] at hc; cases hc
         · rename_i c h3
           split at e
           · rename_i hlt
             cases e
             refine ⟨fun hle=>?_,fun c' hc'=>?_⟩
             · have:=(eL.1 h3).1; omega
             · rw [h3] at hc'; cases hc'
               exact ⟨fun _=>aVl (K:=K) k,fun rn m h4=>by omega⟩
           · cases e
       · cases e
     · cases e
 | entry x=>
   simp only [wG] at e
   simp only [eK]
   split at e
   · cases e
   rename_i hd
   rw [if_neg hd]
   split at e
   · rename_i id h1
     rw [h1]
     try dsimp only
     split at e
     · rename_i h2; simp only [h2]; cases e; exact aVl (K:=K) k
     · cases e
   · cases e
 | _=>
   simp only [wG,bBr] at e
   simp only [eK]
   first | exact uJ e k | cases e
theorem aXw (hc:A4 P G cx) {dr:Option DR} {o:Op} {env:List AV} {h:List AObj} {l:List (AV × List AObj)} {K:AV→List AObj→Prop} (e:bJy P (aev G env) cx dr o h=some l) (k:∀ p ∈ l,K p.1 p.2):oF P G dr o K env h:=by
 unfold bJy at e
 unfold oF
 split at e
 · rename_i T x h1
   rw [h1]
   dsimp only
   unfold bNg at e
   unfold bEa
   split at e
   · rename_i h2
     rw [h2]
     try dsimp only
     split at e
     · rename_i hv; rw [hv]; cases e; exact ⟨k (.b true,h) (by simp),k (.b false,h) (by simp)⟩
     · rename_i hv
       rw [hv]
       split at e
       · cases e; exact ⟨fun _=>k (.b true,h) (by simp),k (.b false,h) (by simp)⟩
       · rename_i hn; cases e; exact ⟨fun h0=>absurd h0 hn,k (.b false,h) (by simp)⟩
     · cases e
   · cases e
 · rename_i hne
   split
   · rename_i T x h1; exact absurd rfl (hne T x h1)
   · split at e
     · rename_i ha
       rw [ha]
       split at e
       · cases e; exact k (_,_) (bA.2 rfl)
       · exact aDt hc e k
     · rename_i ha
       rw [ha]
       exact aDt hc e k
theorem V7 {f:FuncId} {A:List AV} {h h':List AObj} {x:AV} (s:ACalls P G f A h (fun x1 h1=>x1=x∧h1=h')):ACalls P G f A h (fun x1 h1=>x1=fU dep h' x∧h1=freeze (dJ dep h' x) h'):=by
 refine ⟨s.1,fun X w vs g hl hr=>(s.2 X w vs g hl hr).mono ?_⟩
 rintro e w' ⟨v,r,h1,X',he,⟨rfl,rfl⟩,g',rv,t⟩
 obtain ⟨X2,g2,r2,t2⟩:=rS g' rv
 exact ⟨v,_,_,X2,he,⟨rfl,rfl⟩,g2,r2,t.trans t2⟩
theorem aOw (hc:A4 P G cx) {N:DR} {c:Call} {env:List AV} {h:List AObj} {l:List (AV × List AObj)} {K:AV→List AObj→Prop} (e:aWv (aev G env) cx N c h=some l) (k:∀ p ∈ l,K p.1 p.2):bCj P G N c K env h:=by
 unfold aWv at e
 split at e
 · rename_i fx hfx
   split at e
   · rename_i f first capt hf
     split at e
     · rename_i x h' hcx
       split at e
       · rename_i hg
         cases e
         refine ⟨_,_,?_,fun id o hn ho=>I4 hg id o (by simpa using hn) ho,k _ (bZ _)⟩
         simp only [eK,mO,hfx,hf]
         exact .inl (V7 ((hc false _ _ _ _ hcx (fun x1 h1=>x1=x∧h1=h') (by intro p hp; rw [bA] at hp; subst hp; exact ⟨rfl,rfl⟩)).elim id mJ.none))
       · cases e
     · cases e
   · cases e
 · cases e
theorem aPv (hc:A4 P G cx) {dr:Option DR} {ck:Bool} {o:Op} {env:List AV} {h:List AObj} {l:List (AV × List AObj)} {K:AV→List AObj→Prop} (e:aPw P (aev G env) cx dr ck o h=some l) (k:∀ p ∈ l,K p.1 p.2):aOs P G dr ck o K env h:=by
 unfold aPw at e
 unfold aOs
 split at e
 · rename_i T len ps hv
   rw [hv]
   exact uJ e k
 · rename_i hv
   rw [hv]
   split at e
   · rename_i c N hz
     rw [hz]
     exact aOw hc e k
   · rename_i hz
     rw [hz]
     exact aXw hc e k
theorem aJk {n k:Nat} {α:Type} {e:ET} {env:List AV} (r:L7 n k e env) {dst:Option Nat} {y:AV} {f:ET→Option α} {x:α} (h:bDo n e dst y f=some x):∃ e',L7 n k e' (gJ env dst y)∧f e'=some x:=by
 unfold bDo at h
 split at h
 · exact ⟨e,r,h⟩
 · rename_i d
   split at h
   · rename_i hb
     rw [aLp,ET.setK_eq] at h
     exact ⟨_,r.put (by rwa [aEf] at hb) y,h⟩
   · cases h
theorem H8 (hc:A4 P G cx) {n k:Nat} {dr:Option DR}:∀ {os:List fI} {e:ET} {env:List AV} {h:List AObj} {l:List (ET × List AObj)} {K:List AV→List AObj→Prop},L7 n k e env→aKe P G cx n dr os e h=some l→(∀ p ∈ l,∀ env',L7 n k p.1 env'→K env' p.2)→dB P G dr os K env h
 | [],e,env,h,l,K,r,x,kk=>by
   rw [aKe] at x; cases x
   rw [dB]; exact kk (e,h) (bZ _) env r
 | o :: os,e,env,h,l,K,r,x,kk=>by
   rw [aKe] at x
   rw [r.ev G] at x
   have step:∀ {l},(match ckB (aev G env) dr o.ck o.op with
     | true=>K0 (aPw P (aev G env) cx dr o.ck o.op h) fun p=>bDo n e o.dst p.1 fun e'=>match bCy o.op with
       | true=>S9 p.2 fun h'=>aKe P G cx n dr os e' h'
       | false=>aKe P G cx n dr os e' p.2
     | false=>none)=some l→(∀ p ∈ l,∀ env',L7 n k p.1 env'→K env' p.2)→aGg G dr o.ck o.op env∧aOs P G dr o.ck o.op (fun r h'=>dB P G dr os K (gJ env o.dst r) h') env h:=by
     intro l x kk
     split at x
     · rename_i hck
       refine ⟨bHy hck,?_⟩
       obtain ⟨m,h1,h2⟩:=qU x
       refine aPv hc h1 fun p hp=>?_
       obtain ⟨a,ha,hs⟩:=h2 p hp
       obtain ⟨e',r',ha⟩:=aJk r ha
       have ha:aKe P G cx n dr os e' p.2=some a:=by
         split at ha
         · rwa [S8] at ha
         · exact ha
       exact H8 hc r' ha fun q hq=>kk q (hs q hq)
     · cases x
   rw [dB]
   try dsimp only at x
   split at x
   · rename_i hg; rw [hg]; exact step x kk
   · rename_i t want hg
     rw [hg]
     dsimp only
     split at x
     · rename_i hv
       have hv:wS (env.getD t .u) want=.b true:=hv
       rw [hv]; exact ⟨fun _=>step x kk,fun h=>(by cases h)⟩
     · rename_i hv
       have hv:wS (env.getD t .u) want=.b false:=hv
       obtain ⟨e',r',ha⟩:=aJk r x
       rw [hv]; exact ⟨fun h=>(by cases h),fun _=>H8 hc r' ha kk⟩
     · cases x
def bJk (n k:Nat) (l:List aUs) (Q:Exit→List AV→List AObj→Prop):Prop:=∀ p ∈ l,∀ env,L7 n k p.2.1 env→Q p.1 env p.2.2
theorem aRf {n k:Nat} {c:(Exit→List AV→List AObj→Prop)→List AV→List AObj→Prop} {B:ET→List AObj→Option (List aUs)} (hB:∀ e env h l Q,L7 n k e env→B e h=some l→bJk n k l Q→c Q env h) {m:Nat} {e:ET} {env:List AV} {h:List AObj} {l:List aUs} {Q:Exit→List AV→List AObj→Prop} (r:L7 n k e env) (x:aKu B m e h=some l) (kk:bJk n k l Q):Loop c Q env h:=by
 refine ⟨Nat,fun s env h=>∃ e l,L7 n k e env∧aKu B s e h=some l∧bJk n k l Q,id,m,⟨e,l,r,x,kk⟩,?_⟩
 rintro s env h ⟨e,l,r,x,kk⟩
 cases s with
 | zero=>cases x
 | succ s=>
   rw [aKu] at x
   obtain ⟨m,h1,h2⟩:=qU x
   refine hB _ _ _ _ _ r h1 fun p hp env' r'=>?_
   obtain ⟨a,ha,hs⟩:=h2 p hp
   obtain ⟨y,e',h'⟩:=p
   dsimp only at ha r'
   cases y with
   | normal=>exact ⟨s,⟨e',a,r',ha,fun q hq=>kk q (hs q hq)⟩,Nat.lt_succ_self s⟩
   | _=>cases ha; exact kk _ (hs _ (bZ _)) env' r'
theorem oM (hc:A4 P G cx) {n k:Nat} (m:Nat):∀ (c:lD) (e:ET) (env:List AV) (h:List AObj) (l:List aUs) (Q:Exit→List AV→List AObj→Prop),L7 n k e env→pZ P G cx n m c e h=some l→bJk n k l Q→awx P G c Q env h
 | .skip,e,env,h,l,Q,r,x,kk=>by rw [pZ] at x; cases x; exact kk _ (bZ _) env r
 | .region ops,e,env,h,l,Q,r,x,kk=>by
   rw [pZ] at x
   obtain ⟨m,h1,h2⟩:=qU x
   rw [awx]
   refine H8 hc r h1 fun p hp env' r'=>?_
   obtain ⟨a,ha,hs⟩:=h2 p hp
   cases ha; exact kk _ (hs _ (bZ _)) env' r'
 | .draw th ops,e,env,h,l,Q,r,x,kk=>by
   rw [pZ] at x
   obtain ⟨m,h1,h2⟩:=qU x
   rw [awx]
   refine H8 hc r h1 fun p hp env' r'=>?_
   obtain ⟨a,ha,hs⟩:=h2 p hp
   cases ha; exact kk _ (hs _ (bZ _)) env' r'
 | .seq a b,e,env,h,l,Q,r,x,kk=>by
   rw [pZ] at x
   obtain ⟨m',h1,h2⟩:=qU x
   rw [awx]
   refine oM hc m a _ _ _ _ _ r h1 fun p hp env' r'=>?_
   obtain ⟨q,hq,hs⟩:=h2 p hp
   obtain ⟨y,e',h'⟩:=p
   dsimp only at hq r'
   cases y with
   | normal=>exact oM hc m b _ _ _ _ _ r' hq fun z hz=>kk z (hs z hz)
   | _=>cases hq; exact kk _ (hs _ (bZ _)) env' r'
 | .cond c a b,e,env,h,l,Q,r,x,kk=>by
   rw [pZ,r.ev G] at x
   rw [awx]
   split at x
   · rename_i hv; rw [hv]; exact ⟨fun _=>oM hc m a _ _ _ _ _ r x kk,fun h=>(by cases h)⟩
   · rename_i hv; rw [hv]; exact ⟨fun h=>(by cases h),fun _=>oM hc m b _ _ _ _ _ r x kk⟩
   · cases x
 | .block id c,e,env,h,l,Q,r,x,kk=>by
   rw [pZ] at x
   obtain ⟨m',h1,h2⟩:=qU x
   rw [awx]
   refine oM hc m c _ _ _ _ _ r h1 fun p hp env' r'=>?_
   obtain ⟨q,hq,hs⟩:=h2 p hp
   obtain ⟨y,e',h'⟩:=p
   dsimp only at hq r'
   cases y with
   | exit i=>
     simp only [zM]
     simp only at hq
     split at hq
     · rename_i hi; rw [if_pos hi]; cases hq; exact kk _ (hs _ (bZ _)) env' r'
     · rename_i hi; rw [if_neg hi]; cases hq; exact kk _ (hs _ (bZ _)) env' r'
   | _=>cases hq; exact kk _ (hs _ (bZ _)) env' r'
 | .loop c,e,env,h,l,Q,r,x,kk=>by
   rw [pZ] at x
   rw [awx]
   exact aRf (fun e env h l Q r x kk=>oM hc m c e env h l Q r x kk) r x kk
 | .exit id,e,env,h,l,Q,r,x,kk=>by rw [pZ] at x; cases x; exact kk _ (bZ _) env r
 | .ret,e,env,h,l,Q,r,x,kk=>by rw [pZ] at x; cases x; exact kk _ (bZ _) env r
end

mutual
def F0 (h:List AObj):AV→AV
 | .agg xs=>.agg (finRL h xs)
 | .tup xs=>.tup (finRL h xs)
 | x=>fU dep h x
def finRL (h:List AObj):List AV→List AV
 | []=>[]
 | x::xs=>F0 h x::finRL h xs
end
theorem mQ {h:List AObj} {x:AV} {sz n:Nat} {cells:List AV}:fU dep h x ≠ .own sz cells n:=by
 intro e
 rw [fS] at e
 split at e
 · rename_i hp; rw [e] at hp; simp [pers] at hp
 · unfold qX at e
   dsimp only at e
   split at e
   all_goals try (split at e)
   all_goals try (split at e)
   all_goals cases e
mutual
theorem uP (h:List AObj):∀ (x:AV),kQ h x (F0 h x)∧cD x (F0 h x)=[]
 | .agg xs=>by
   have:=finRL_ok h xs
   rw [F0]
   exact ⟨this.1,this.2⟩
 | .tup xs=>by
   have:=finRL_ok h xs
   rw [F0]
   exact ⟨this.1,this.2⟩
 | .u=>⟨rfl,rfl⟩
 | .b _=>⟨rfl,rfl⟩
 | .i _ _=>⟨rfl,rfl⟩
 | .s _=>⟨rfl,rfl⟩
 | .p v=>⟨rfl,rfl⟩
 | .e0=>⟨rfl,rfl⟩
 | .sl cells n=>by
   rw [F0]
   all_goals try (intro xs e; cases e; done)
   cases hs:fU dep h (.sl cells n) with
   | own a b c=>exact absurd hs mQ
   | _=>exact ⟨hs.symm,rfl⟩
 | .own a b c=>by
   rw [F0]
   all_goals try (intro xs e; cases e; done)
   cases hs:fU dep h (.own a b c) with
   | own a b c=>exact absurd hs mQ
   | _=>exact ⟨hs.symm,rfl⟩
 | .hs a b c d=>by
   rw [F0]
   all_goals try (intro xs e; cases e; done)
   cases hs:fU dep h (.hs a b c d) with
   | own a b c=>exact absurd hs mQ
   | _=>exact ⟨hs.symm,rfl⟩
 | .ptr a b=>by
   rw [F0]
   all_goals try (intro xs e; cases e; done)
   cases hs:fU dep h (.ptr a b) with
   | own a b c=>exact absurd hs mQ
   | _=>exact ⟨hs.symm,rfl⟩
 | .box a b=>by
   rw [F0]
   all_goals try (intro xs e; cases e; done)
   cases hs:fU dep h (.box a b) with
   | own a b c=>exact absurd hs mQ
   | _=>exact ⟨hs.symm,rfl⟩
 | .mp a=>by
   rw [F0]
   all_goals try (intro xs e; cases e; done)
   cases hs:fU dep h (.mp a) with
   | own a b c=>exact absurd hs mQ
   | _=>exact ⟨hs.symm,rfl⟩
 | .mapv a b=>by
   rw [F0]
   all_goals try (intro xs e; cases e; done)
   cases hs:fU dep h (.mapv a b) with
   | own a b c=>exact absurd hs mQ
   | _=>exact ⟨hs.symm,rfl⟩
 | .fn a b c=>by
   rw [F0]
   all_goals try (intro xs e; cases e; done)
   cases hs:fU dep h (.fn a b c) with
   | own a b c=>exact absurd hs mQ
   | _=>exact ⟨hs.symm,rfl⟩
theorem finRL_ok (h:List AObj):∀ (xs:List AV),finOKL h xs (finRL h xs)∧finIdsL xs (finRL h xs)=[]
 | []=>⟨trivial,rfl⟩
 | x::xs=>by
   have h1:=uP h x
   have h2:=finRL_ok h xs
   rw [finRL]
   exact ⟨⟨h1.1,h2.1⟩,by rw [finIdsL,h1.2,h2.2]; rfl⟩
end
theorem aCw {h:List AObj} {x:AV}:Fin h x (F0 h x):=by
 have e:=uP h x
 exact .inr ⟨e.1,by rw [e.2]; exact fL,by rw [e.2]; simp⟩

def bJc (P:Program) (h:List AObj) (T:Option TypeId):AV→AV
 | .e0=>match (T.bind (eI P)).bind (kB P) with
   | some sz=>.own sz [] 0
   | none=>F0 h .e0
 | .hs id off n false=>match h[id]? with
   | some (.arr false sz cs)=>if off+n * sz≤cs.length∧persL ((cs.drop off).take (n * sz))=true then .own sz ((cs.drop off).take (n * sz)) n else F0 h (.hs id off n false)
   | _=>F0 h (.hs id off n false)
 | x=>F0 h x
def aSi (P:Program) (h:List AObj):List TypeId→List AV→List AV
 | T::Ts,x::xs=>bJc P h (some T) x::aSi P h Ts xs
 | _,xs=>finRL h xs
def bJb (P:Program) (h:List AObj) (Ts:List TypeId):AV→AV
 | .tup xs=>.tup (aSi P h Ts xs)
 | x=>bJc P h Ts.head? x
theorem aLz (P:Program) (h:List AObj) (T:Option TypeId) (x:AV):kQ h x (bJc P h T x):=by
 unfold bJc
 split
 · split
   · exact ⟨rfl,rfl⟩
   · exact (uP h _).1
 · rename_i id off n
   split
   · rename_i sz cs hh
     split
     · rename_i hc; exact ⟨rfl,rfl,cs,hh,hc.1,rfl,hc.2⟩
     · exact (uP h _).1
   · exact (uP h _).1
 · exact (uP h _).1
theorem aCz (P:Program) (h:List AObj):∀ (Ts:List TypeId) (xs:List AV),finOKL h xs (aSi P h Ts xs)
 | T::Ts,x::xs=>⟨aLz P h _ x,aCz P h Ts xs⟩
 | [],xs=>by rw [aSi]; exact (finRL_ok h xs).1; intros; contradiction
 | _::_,[]=>trivial
theorem bAh (P:Program) (h:List AObj) (Ts:List TypeId) (x:AV):kQ h x (bJb P h Ts x):=by
 unfold bJb
 split
 · exact aCz P h Ts _
 · exact aLz P h _ _
def aWs (h:List AObj) (x r:AV):Bool:=decide (cD x r).Nodup && (cD x r).all fun i => !(iW h x r).contains i
def bAi (P:Program) (h:List AObj) (Ts:List TypeId) (x:AV):AV:=if aWs h x (bJb P h Ts x) then bJb P h Ts x else F0 h x
theorem aCx {P:Program} {h:List AObj} {Ts:List TypeId} {x:AV}:Fin h x (bAi P h Ts x):=by
 unfold bAi
 split
 · rename_i hb
   simp only [aWs,aB,decide_eq_true_eq,aV,eN] at hb
   refine .inr ⟨bAh P h Ts x,hb.1,fun i hi hc=>?_⟩
   have:=hb.2 i hi
   rw [← rF,this] at hc
   cases hc
 · exact aCw

section
variable (P:Program) (G:Glob)
structure How where
 heap:Bool:=false
 rx:Bool:=false
 th:Nat→Option TH:=fun _=>none
def G4 (ev:Operand→AV) (h:List AObj):List ResultVar→Option (List AV)
 | []=>some []
 | .tmp t::rs=>match G4 ev h rs with
   | some l=>some (ev (.tmp t)::l)
   | none=>none
 | .cell a T::rs=>match tZ P T h (ev (.tmp a)),G4 ev h rs with
   | some x,some l=>some (x::l)
   | _,_=>none
def bBp (ev:Operand→AV) (h:List AObj) (rs:List ResultVar):Option AV:=
 match G4 P ev h rs with
 | some [x]=>some x
 | some l=>some (.tup l)
 | none=>none
def bAo (n:Nat) (rs:List ResultVar):Option (List aUs)→Ends
 | none=>none
 | some l=>aGo l fun p=>match p.1 with
   | .normal | .ret=>match bBp P (evT G n p.2.1) p.2.2 rs with
     | some x=>some [(x,p.2.2)]
     | none=>none
   | _=>none
def argsT:ET→Nat→List AV→ET
 | e,_,[]=>e
 | e,i,a::l=>argsT (e.set i a) (i+1) l
def dpt (n:Nat):Nat:=if n≤16 then 4 else if n≤64 then 6 else if n≤256 then 8 else if n≤1024 then 10 else 14
abbrev bBz:=FuncId→List AV→Option AV
def bBg (lib:bBz) (how:FuncId→How) (E:FuncId→List AV→List AObj→Ends):aBe:=fun dr f A h=>
 match lib f (A.map (fU dep h)) with
 | some r=>some [mat r (fW r h A)]
 | none=>
 if (how f).heap && !dr then E f A h else
 match E f (A.map (fU dep h)) [],P.funcs[f]? with
 | some ((x,h1)::l),some fn=>
   if l.all fun q=>G2 (bAi P q.2 fn.resultTypes.toList q.1) (bAi P h1 fn.resultTypes.toList x) then some [mat (bAi P h1 fn.resultTypes.toList x) (fW (bAi P h1 fn.resultTypes.toList x) h A)] else none
 | _,_=>none
def bCi (P:Program) (rx:Bool) (th:Nat→Option TH) (f:FuncId):Bool:=match P.funcs[f]? with
 | some fn=>match fn.body with
   | some c=>gP P f && iY rx th c
   | none=>false
 | none=>false
def bEn (lib:bBz) (how:FuncId→How) (ok:FuncId→Bool):Nat→FuncId→List AV→List AObj→Ends
 | 0,_,_,_=>none
 | n + 1,f,A,h=>match P.funcs[f]? with
   | none=>none
   | some fn=>match fn.body with
     | none=>none
     | some c=>if ok f then
       match strip (how f).rx (how f).th c with
       | none=>none
       | some ac=>if fn.ntmps≤16384∧A.length≤fn.ntmps then bAo P G fn.ntmps fn.results.toList (pZ P G (bBg P lib how (bEn lib how ok n)) fn.ntmps n ac (argsT (ET.mk (dpt fn.ntmps)) 0 A) h) else none
       else none
end
section
variable {P:Program} {G:Glob}
theorem zQ {env:List AV} {h:List AObj}:∀ (rs:List ResultVar),G4 P (aev G env) h rs=wH P env h rs
 | []=>rfl
 | .tmp t::rs=>by
   rw [G4,wH,zQ rs,U9]
   cases wH P env h rs <;> rfl
 | .cell a T::rs=>by
   rw [G4,wH,zQ rs,U9]
   rfl
theorem aTw {env:List AV} {h:List AObj} {rs:List ResultVar}:bBp P (aev G env) h rs=aDz P rs env h:=by
 rw [bBp,zQ,aDz]
 rfl
theorem aSn {n k:Nat} {rs:List ResultVar} {x:Option (List aUs)} {l:List (AV × List AObj)} (e:bAo P G n rs x=some l):∃ m,x=some m∧∀ p ∈ m,∀ env,L7 n k p.2.1 env→(p.1=.normal∨p.1=.ret)∧∃ y,aDz P rs env p.2.2=some y∧(y,p.2.2) ∈ l:=by
 unfold bAo at e
 split at e
 · cases e
 · rename_i m
   refine ⟨m,rfl,fun p hp env r=>?_⟩
   obtain ⟨a,ha,hs⟩:=K5 e p hp
   rw [r.ev G,aTw] at ha
   split at ha
   · rename_i hx
     split at ha
     · rename_i y hy; cases ha; exact ⟨.inl hx,y,hy,hs _ (bZ _)⟩
     · cases ha
   · rename_i hx
     split at ha
     · rename_i y hy; cases ha; exact ⟨.inr hx,y,hy,hs _ (bZ _)⟩
     · cases ha
   · cases ha
theorem aDx {k:Nat}:∀ (l:List AV) (e:ET) (i:Nat) (pre:List AV) (m:Nat),pre.length=i→i+l.length≤m→L7 m k e (pre++List.replicate (m - i) .u)→L7 m k (argsT e i l) (pre++l++List.replicate (m - (i+l.length)) .u)
 | [],e,i,pre,m,hp,hm,r=>by rw [argsT]; simpa using r
 | a :: l,e,i,pre,m,hp,hm,r=>by
   rw [aD] at hm
   have r1:=r.put (d:=i) (by omega) a
   have e1:(pre++List.replicate (m - i) AV.u).set i a=(pre++[a])++List.replicate (m - (i+1)) AV.u:=by
     rw [rD _ _ (by omega),hp,aBc,show m - i=(m - (i+1))+1 by omega,iR,List.set_cons_zero,bW]
     rfl
   rw [e1] at r1
   have:=aDx l (e.set i a) (i+1) (pre++[a]) m (by simp [hp]) (by omega) r1
   rw [argsT]
   simpa [cW,nE 1] using this
theorem bLx {m:Nat} (h:m≤16384):L7 m (dpt m) (ET.mk (dpt m)) (List.replicate m .u):=by
 refine ⟨by simp,?_,ET.full_mk _,fun t ht=>by rw [ET.get_mk]; simp [List.getD,ht]⟩
 unfold dpt
 repeat' split
 all_goals omega
def aUr (P:Program) (G:Glob) (E:FuncId→List AV→List AObj→Ends):Prop:=
 ∀ f A h l,E f A h=some l→∃ (rx:Bool) (th:Nat→Option TH) (fn:Func) (c:Code) (ac:lD),P.funcs[f]? = some fn∧fn.body=some c∧gP P f=true∧iY rx th c=true∧strip rx th c=some ac ∧
   ∀ K:AV→List AObj→Prop,(∀ p ∈ l,K p.1 p.2)→awx P G ac (fun e env h'=>(e=.normal∨e=.ret)∧∃ x,aDz P fn.results.toList env h'=some x∧K x h') (A++List.replicate (fn.ntmps - A.length) .u) h
theorem aUr.ctr (hm:P.follows .mixedOrders=true) (hG:oT G) {E:FuncId→List AV→List AObj→Ends} (he:aUr P G E) {f:FuncId} {A:List AV} {l:List (AV × List AObj)} {r:AV} (e:E f A []=some l) (k:∀ p ∈ l,Fin p.2 p.1 r):Ctr P G f A r:=by
 obtain ⟨rx,th,fn,c,ac,h1,h2,h3,h4,h5,h6⟩:=he _ _ _ _ e
 exact sQ hm h1 h2 h3 h4 h5 hG (h6 (fun x h=>Fin h x r) k)
def aOq (P:Program) (G:Glob) (lib:bBz):Prop:=∀ f A r,lib f A=some r→Ctr P G f A r
def bJv (l:List (FuncId × List AV × AV)):bBz:=fun f A=>match l.find? fun e=>Nat.beq e.1 f && avEqL e.2.1 A with
 | some e=>some e.2.2
 | none=>none
theorem aXm {l:List (FuncId × List AV × AV)} (h:∀ e ∈ l,Ctr P G e.1 e.2.1 e.2.2):aOq P G (bJv l):=by
 intro f A r e
 unfold bJv at e
 split at e
 · rename_i x hx
   cases e
   have h1:=List.find?_some hx
   rw [aB] at h1
   have h2:=h x (List.mem_of_find?_eq_some hx)
   rw [avEqL_ok _ _ h1.2] at h2
   rwa [Nat.eq_of_beq_eq_true h1.1] at h2
 · cases e
theorem bDy {how:FuncId→How} {l:List FuncId} (h:l.all (fun f=>bCi P (how f).rx (how f).th f)=true):∀ f,l.contains f=true→bCi P (how f).rx (how f).th f=true:=fun f hf=>aV.1 h f (by simpa using hf)
theorem aTi (hm:P.follows .mixedOrders=true) (hG:oT G) {lib:bBz} (hl:aOq P G lib) {how:FuncId→How} {E:FuncId→List AV→List AObj→Ends} (he:aUr P G E):A4 P G (bBg P lib how E):=by
 intro dr f A h l e K k
 unfold bBg at e
 split at e
 · rename_i r hr
   cases e
   have hK:=k _ (bZ _)
   have c:=hl _ _ _ hr
   unfold B8
   split
   · exact ⟨_,c,hK⟩
   · exact .inl (ACalls.sem c hK)
 split at e
 · rename_i hh
   simp only [aB,eN] at hh
   rw [hh.2]
   obtain ⟨rx,th,fn,c,ac,h1,h2,h3,h4,h5,h6⟩:=he _ _ _ _ e
   exact .inl (fO hm h1 h2 h3 h4 h5 (h6 K k))
 · split at e
   · rename_i x h1 m fn hE _
     split at e
     · rename_i hall
       cases e
       have hK:=k _ (bZ _)
       have c:Ctr P G f (A.map (fU dep h)) (bAi P h1 fn.resultTypes.toList x):=he.ctr hm hG hE fun p hp=>by
         rcases cH.1 hp with rfl | hp
         · exact aCx
         · rw [← aAx _ _ (aV.1 hall p hp)]; exact aCx
       unfold B8
       split
       · exact ⟨_,c,hK⟩
       · exact .inl (ACalls.sem c hK)
     · cases e
   · cases e
theorem aLl (hm:P.follows .mixedOrders=true) (hG:oT G) {lib:bBz} (hl:aOq P G lib) (how:FuncId→How) {ok:FuncId→Bool} (hok:∀ f,ok f=true→bCi P (how f).rx (how f).th f=true):∀ n,aUr P G (bEn P G lib how ok n)
 | 0=>fun f A h l e=>by cases e
 | n + 1=>fun f A h l e=>by
   rw [bEn] at e
   split at e
   · cases e
   rename_i fn h1
   split at e
   · cases e
   rename_i c h2
   split at e
   · rename_i h3
     have h3:=hok _ h3
     rw [bCi,h1] at h3
     dsimp only at h3
     rw [h2] at h3
     dsimp only at h3
     rw [aB] at h3
     split at e
     · cases e
     rename_i ac h5
     split at e
     · rename_i h6
       refine ⟨_,_,fn,c,ac,h1,h2,h3.1,h3.2,h5,fun K k=>?_⟩
       obtain ⟨m,hm1,hm2⟩:=aSn (k:=dpt fn.ntmps) e
       have r0:=aDx A _ 0 [] fn.ntmps rfl (by omega) (by simpa using bLx h6.1)
       simp only [bJ,cZ] at r0
       refine oM (aTi hm hG hl (aLl hm hG hl how hok n)) n ac _ _ _ m _ r0 hm1 fun p hp env r=>?_
       obtain ⟨a,y,hy,hl⟩:=hm2 p hp env r
       exact ⟨a,y,hy,k _ hl⟩
     · cases e
   · cases e
theorem aXv (hm:P.follows .mixedOrders=true) (hG:oT G) {lib:bBz} (hl:aOq P G lib) (how:FuncId→How) {ok:FuncId→Bool} (hok:∀ f,ok f=true→bCi P (how f).rx (how f).th f=true) (n:Nat) {f:FuncId} {A:List AV} {r:AV} (e:(match bEn P G lib how ok n f A [] with | some l=>l.all fun p=>G2 (F0 p.2 p.1) r | none=>false)=true):Ctr P G f A r:=by
 cases hx:bEn P G lib how ok n f A [] with
 | none=>rw [hx] at e; cases e
 | some l=>
   rw [hx] at e
   refine (aLl hm hG hl how hok n).ctr hm hG hx fun p hp=>?_
   rw [← aAx _ _ (aV.1 e p hp)]
   exact aCw
end
open Go.Shelf Go.RowKit Go.Lib Go.Proofs

def Shp (w w':World):Prop:=∀ b s,w.shape? b=some s→w'.shape? b=some s
theorem Shp.refl (w:World):Shp w w:=fun _ _ h=>h
theorem Shp.trans {a b c:World} (h:Shp a b) (k:Shp b c):Shp a c:=fun x s e=>k x s (h x s e)
theorem xN (w:World) (o:Obj):Shp w (w.alloc o):=fun b s h=>by rw [kG (Lib.alloc_old w o b (oE h))]; exact h
theorem xM (w:World) (a:Addr) (v:Value):Shp w (w.setCell a v):=fun b s h=>by
 rw [← h]
 unfold World.shape? World.setCell
 simp only [jI]
 by_cases hb:a.block=b
 · subst hb
   rw [if_pos rfl]
   cases ho:w.heap[a.block]? with
   | none=>rfl
   | some o=>
     cases o <;> simp [Option.map]
     split <;> simp
 · rw [if_neg hb]
section
variable {P:Program} (w:World)
theorem bBq (t u ty e:TypeId) (i:TypeInfo) (ht:P.underlying t=some (.slice e)) (hu:P.underlying u=some .string) (hi:P.info? e=some i) (hz:i.zero=some (.int .u8 0))
   (hsize:i.size=1) (hby:i.bytes=1)
   (v:Value) (n:Nat) (xs:List Value) (hown:w.ownsRow 0 e 1 v n xs) (s:ByteArray)
   (h63:n+s.size≤maxLen) (hbytes:n+s.size≤140737488355328) :
   ∃ v' w',(Builtin.append_ #[t,u] ty #[v,.string s]).run P w=.ok v' w'∧w'.ownsRow 0 e 1 v' (n+s.size) (xs++strCells s)∧w.grownBy w' v.ownBlock ∧
     (v'.ownBlock=v.ownBlock∨v'.ownBlock=some w.heap.size)∧Shp w w':=by
 obtain ⟨v',w',h1,h2,h3,h4⟩:=run_append_own_string (P:=P) w 0 t u ty e i ht hu hi hz hsize hby v n xs hown s h63 hbytes (aT _)
 refine ⟨v',w',h1,h2,h3,?_⟩
 have hxl:xs.length=n:=by simpa using hown.1
 rcases hown.2 with ⟨rfl,rfl⟩ | ⟨g,cap,cur,rfl,hbg,hg,hnc,hcm,hcs,htake⟩
 · by_cases hm:s.size=0
   · refine ⟨by rw [h4.2 ⟨rfl,hm⟩]; exact .inl rfl,?_⟩
     have hn:strCells s=[]:=List.eq_nil_of_length_eq_zero (by rw [strCells_length]; exact hm)
     have hf:=run_firstCells_string (P:=P) w 1 s
     rw [hm] at hf
     have hr:(Builtin.append_ #[t,u] ty #[.slice none 0 0,.string s]).run P w=.ok (.slice none 0 0) w:=by simp [Builtin.append_,run_underlying ht,run_underlying hu,sizeOf,typeInfo,hi,hsize,Builtin.lenOf,hm,hf]
     rw [hr] at h1
     cases h1
     exact Shp.refl w
   · have hr:=run_append_nil_string (P:=P) w t u ty e i (.int .u8 0) ht hu hi hz s (by omega) (by omega) (by rw [hby]; omega)
     rw [hr] at h1
     cases h1
     exact ⟨.inr rfl,xN _ _⟩
 · have hcs':cur.size=cap:=by simpa using hcs
   by_cases hroom:n+s.size≤cap
   · have hr:=run_append_room_string (P:=P) w t u ty e i ht hu hi hsize g n cap cur hg s hroom (by omega)
     rw [hr] at h1
     cases h1
     refine ⟨.inl rfl,fun b z hz=>?_⟩
     by_cases hbg:b=g
     case neg=>rw [kG (setRow_other w g b _ hbg)]; exact hz
     subst hbg
     refine mR hg ?_ z hz
     simp only [List.size_toArray,aG,eZ,nB,Array.length_toList,strCells_length]
     omega
   · have holds:∀ j u,xs[j]? = some u→w.cell? ((⟨g,0,none⟩:Addr).add j)=some u:=hown.cells (g:=g) rfl
     have hsmall:n+s.size≤9223372036854775807:=by simp only [maxLen] at h63; omega
     have hr:=run_append_grow_string (P:=P) w t u ty e i (.int .u8 0) ht hu hi hz ⟨g,0,none⟩ n cap xs (by rw [hsize]; simpa using hxl) holds s (by omega) (by omega) (by rw [hby]; exact growslice_fits (by omega) (by omega))
     rw [hr] at h1
     cases h1
     exact ⟨.inr rfl,xN _ _⟩
theorem aEi {ops:Array Oper} {rest:List Oper} {o:Oper} {a:Act} {Q:Exit→Act→World→Prop} (hgd:o.guard=none) (sl x:Operand) (t u:TypeId)
   (ho:o.op=.call { callee:=.builtin .append,args := #[sl,x],argTypes := #[t,u] })
   (e:TypeId) (i:TypeInfo) (ht:P.underlying t=some (.slice e)) (hu:P.underlying u=some .string) (hi:P.info? e=some i) (hz:i.zero=some (.int .u8 0))
   (hsize:i.size=1) (hby:i.bytes=1)
   (v:Value) (n:Nat) (xs:List Value) (hs:a.eval sl=v) (hown:w.ownsRow 0 e 1 v n xs) (s:ByteArray) (hx:a.eval x=.string s)
   (h63:n+s.size≤maxLen) (hbytes:n+s.size≤140737488355328)
   (h:∀ v' w',w'.ownsRow 0 e 1 v' (n+s.size) (xs++strCells s)→w.grownBy w' v.ownBlock→(v'.ownBlock=v.ownBlock∨v'.ownBlock=some w.heap.size)→Shp w w'→wpList P ops Q rest (a.put o.dst v') w'):wpList P ops Q (o::rest) a w:=by
 refine wpList_plain hgd fun K hK=>?_
 obtain ⟨v',w',hr,h2,h3,h4,h5⟩:=bBq (P:=P) w t u o.type e i ht hu hi hz hsize hby v n xs hown s h63 hbytes
 unfold Oper.wp execOp
 simp only [ho,resolve,invoke,builtin,bD,cY,aN,List.map_toArray,aO,bE,hs,hx,hr]
 exact hK _ _ (h v' w' h2 h3 h4 h5)
end
section
variable {P:Program} {ρ:Ren} {T:TypeId}
def selfP (b:Nat):Value:=.pointer (some ⟨b,0,none⟩)
structure bMy (P:Program) (ρ:Ren) (T:TypeId):Prop where
 mixed:P.follows .mixedOrders=true
 f166:P.funcs[ρ.f 166]? = some (Body.n166 ρ)
 e240:∀ args w,(callFunc (ρ.f 240) args).run P w=.ok (.enter (ρ.f 240) args) w
 copy:∀ (b:Nat) (p v:Value) (w:World),w.heap[b]? = some (.cells #[p,v] T (0,0))→(p=.pointer none∨p=selfP b) →
   Calls P (ρ.f 240) #[selfP b] w fun e w'=>e=.returned (.tuple #[])∧w'.heap[b]? = some (.cells #[selfP b,v] T (0,0))∧w.grownBy w' (some b)∧w'.heap.size=w.heap.size∧Shp w w'
 t3:P.underlying (ρ.t 3)=some (TypeDesc.int IntKind.i64)
 a3:∀ w,(isAgg (ρ.t 3)).run P w=.ok false w
 z3:∀ w,(Go.sizeOf (ρ.t 3)).run P w=.ok 1 w
 v3:∀ w,(zeroValue (ρ.t 3)).run P w=.ok (Value.int IntKind.i64 0) w
 t4:P.underlying (ρ.t 4)=some (TypeDesc.bool)
 a4:∀ w,(isAgg (ρ.t 4)).run P w=.ok false w
 z4:∀ w,(Go.sizeOf (ρ.t 4)).run P w=.ok 1 w
 v4:∀ w,(zeroValue (ρ.t 4)).run P w=.ok (Value.bool false) w
 t9:P.underlying (ρ.t 9)=some (TypeDesc.string)
 a9:∀ w,(isAgg (ρ.t 9)).run P w=.ok false w
 z9:∀ w,(Go.sizeOf (ρ.t 9)).run P w=.ok 1 w
 v9:∀ w,(zeroValue (ρ.t 9)).run P w=.ok (Value.string { data := #[] }) w
 t37:P.underlying (ρ.t 37)=some (TypeDesc.slice (ρ.t 5))
 a37:∀ w,(isAgg (ρ.t 37)).run P w=.ok false w
 z37:∀ w,(Go.sizeOf (ρ.t 37)).run P w=.ok 1 w
 v37:∀ w,(zeroValue (ρ.t 37)).run P w=.ok (Value.slice none 0 0) w
 t70:P.underlying (ρ.t 70)=some (TypeDesc.pointer (ρ.t 72))
 a70:∀ w,(isAgg (ρ.t 70)).run P w=.ok false w
 z70:∀ w,(Go.sizeOf (ρ.t 70)).run P w=.ok 1 w
 v70:∀ w,(zeroValue (ρ.t 70)).run P w=.ok (Value.pointer none) w
 t72:P.underlying (ρ.t 72)=some (TypeDesc.struct #[{ name := "addr",type:=ρ.t 70,offset:=0,embedded:=false,tag := "",pkgPath := "strings",byteOffset:=0 },{ name := "buf",type:=ρ.t 37,offset:=1,embedded:=false,tag := "",pkgPath := "strings",byteOffset:=8 }])
 a72:∀ w,(isAgg (ρ.t 72)).run P w=.ok true w
 z72:∀ w,(Go.sizeOf (ρ.t 72)).run P w=.ok 2 w
 v72:∀ w,(zeroValue (ρ.t 72)).run P w=.ok (Value.agg #[Value.pointer none,Value.slice none 0 0]) w
theorem bDs {w:World} {e:TypeId} {v:Value} {n:Nat} {xs:List Value} (h:w.ownsRow 0 e 1 v n xs) {g:Nat} (hg:v.ownBlock=some g):∃ cur cap,w.heap[g]? = some (.cells cur e (0,0))∧v=.slice (some ⟨g,0,none⟩) n cap:=by
 rcases h.2 with ⟨rfl,_⟩ | ⟨g',cap,cur,rfl,_,hg',_⟩
 · cases hg
 · simp only [Value.ownBlock,aA] at hg
   subst hg
   exact ⟨cur,cap,hg',rfl⟩
theorem aCp {w:World} {b:Nat} {o:Obj} (h:w.heap[b]? = some o):b < w.heap.size:=by
 rcases xA b w.heap.size with h' | h'
 · exact h'
 · simp [W0 h'] at h
set_option maxHeartbeats 2000000 in
set_option maxRecDepth 100000 in
theorem aNq (L:bMy P ρ T) (X:Builder.Extra P ρ) (hT:T ≠ ρ.t 5) (b:Nat) (p v:Value) (n:Nat) (xs:List Value) (s:ByteArray) (w:World)
   (hb:w.heap[b]? = some (.cells #[p,v] T (0,0))) (hp:p=.pointer none∨p=selfP b) (hown:w.ownsRow 0 (ρ.t 5) 1 v n xs) (hlen:n+s.size≤140737488355328) :
   Calls P (ρ.f 166) #[selfP b,.string s] w fun e w'=>e=.returned (.tuple #[.int .i64 s.size,.nilIface])∧∃ v',w'.heap[b]? = some (.cells #[selfP b,v'] T (0,0))∧w'.ownsRow 0 (ρ.t 5) 1 v' (n+s.size) (xs++strCells s) ∧
     w'.os=w.os∧w'.tape=w.tape∧w'.output=w.output∧w.heap.size≤w'.heap.size∧(∀ k,k < w.heap.size→k ≠ b→some k ≠ v.ownBlock→w'.heap[k]? = w.heap[k]?)∧(∀ g,v'.ownBlock=some g→v.ownBlock=some g∨w.heap.size≤g)∧Shp w w':=by
 obtain ⟨i0,hi,hz0,hz1,hz2⟩:=info_parts X.infoByte
 have mixed:=L.mixed
 have t72:=L.t72; have a72:=L.a72; have z72:=L.z72; have v72:=L.v72; have u72:=run_underlying L.t72
 have t70:=L.t70; have a70:=L.a70; have z70:=L.z70; have v70:=L.v70; have u70:=run_underlying L.t70
 have t37:=L.t37; have a37:=L.a37; have z37:=L.z37; have v37:=L.v37; have u37:=run_underlying L.t37
 have t3:=L.t3; have a3:=L.a3; have z3:=L.z3; have v3:=L.v3; have u3:=run_underlying L.t3
 have t9:=L.t9; have a9:=L.a9; have z9:=L.z9; have v9:=L.v9; have u9:=run_underlying L.t9
 have t4:=L.t4; have a4:=L.a4; have z4:=L.z4; have v4:=L.v4; have u4:=run_underlying L.t4
 have t5:=X.t5; have a5:=X.a5; have z5:=X.z5; have v5:=X.v5; have u5:=run_underlying X.t5
 have e240:=L.e240
 have hne0:v.ownBlock ≠ some b:=ownBlock_ne hown hb hT
 unfold selfP
 go_enter L.f166,Body.n166_ntmps ρ
 go_wp2_with (go_at_fn (ρ.f 240); refine (L.copy b p v w hb hp).mono ?_)
 rintro e w1 ⟨rfl,hbk,gr,hsz,hs1⟩
 unfold selfP at hbk
 have hown1:w1.ownsRow 0 (ρ.t 5) 1 v n xs:=hown.kept gr (.inr hne0)
 have hne:v.ownBlock ≠ some b:=hne0
 have c0:w1.cell? ⟨b,0,none⟩=some (.pointer (some ⟨b,0,none⟩)):=by rw [Lib.cell_of_heap hbk]; rfl
 have c1:w1.cell? ⟨b,1,none⟩=some v:=by rw [Lib.cell_of_heap hbk]; rfl
 go_wp2_with (at_builtin; refine aEi _ rfl _ _ (ρ.t 37) (ρ.t 9) rfl (ρ.t 5) i0 L.t37 L.t9 hi hz0 hz1 hz2 _ _ _ rfl hown1 s rfl ?c3 ?c4 ?_)
 case c3=>unfold maxLen; omega
 case c4=>omega
 intro v' w2 hown' hgrow hnew hs2
 have hlt:b < w1.heap.size:=aCp hbk
 have hb2:w2.heap[b]? = some (.cells #[.pointer (some ⟨b,0,none⟩),v] T (0,0)):=by
   rw [hgrow.block b hlt (fun e=>hne e.symm)]
   exact hbk
 have d0:w2.cell? ⟨b,0,none⟩=some (.pointer (some ⟨b,0,none⟩)):=by rw [Lib.cell_of_heap hb2]; rfl
 have d1:w2.cell? ⟨b,1,none⟩=some v:=by rw [Lib.cell_of_heap hb2]; rfl
 have f1:w2.frozen? ⟨b,1,none⟩=false:=Lib.frozen_of_heap hb2 1
 obtain ⟨ao,n',cap,rfl⟩:∃ ao n' cap,v'=.slice ao n' cap:=by
   rcases hown'.2 with ⟨hv,_⟩ | ⟨g,cap,cur,hv,_⟩
   · exact ⟨_,_,_,hv⟩
   · exact ⟨_,_,_,hv⟩
 have hne':(Value.slice ao n' cap).ownBlock ≠ some b:=ownBlock_ne hown' hb2 hT
 go_wp2
 go_ret2
 refine ⟨rfl,_,?_,hown'.kept (w':=w2.setCell ⟨b,1,none⟩ (.slice ao n' cap)) (row:=some b) ⟨rfl,rfl,rfl,by simp [World.setCell],fun k _ hk=>Below.heap_setCell _ _ _ _ (fun e=>hk (by simp [e]))⟩ (.inr hne'),?_⟩
 · simp [World.setCell,jI,hb2]
 · refine ⟨hgrow.os.trans gr.os,hgrow.tape.trans gr.tape,hgrow.output.trans gr.output,?_,fun k hk hkb hkv=>?_,fun g hg=>?_,hs1.trans (hs2.trans (xM _ _ _))⟩
   · have:=hgrow.size; simp [World.setCell]; omega
   · rw [Below.heap_setCell _ _ _ _ (fun e=>hkb (by simpa using e)),hgrow.block k (by omega) hkv,gr.block k hk (fun e=>hkb (by simpa using e))]
   · rcases hnew with h | h
     · exact .inl (h.symm.trans hg)
     · rw [h] at hg; cases hg; exact .inr (by omega)
theorem S5 (w:World) (g:Nat) (n:Nat):w.grownBy (w.freeze ⟨g,0,none⟩ n) (some g):=by
 unfold World.freeze
 split
 · exact ⟨rfl,rfl,rfl,aX _,fun _ _ _=>rfl⟩
 · refine ⟨rfl,rfl,rfl,by simp,fun k hk hne=>?_⟩
   simp only [jI]
   rw [if_neg (fun e=>hne (by simp [e]))]
theorem aEz (w:World) (a:Addr) (n:Nat):Shp w (w.freeze a n):=fun b s h=>by
 unfold World.freeze
 by_cases hn:n=0
 · rw [if_pos hn]; exact h
 rw [if_neg hn,← h]
 unfold World.shape?
 simp only [jI]
 by_cases hb:a.block=b
 · subst hb
   rw [if_pos rfl]
   cases ho:w.heap[a.block]? with
   | none=>rfl
   | some o=>cases o <;> simp [Option.map]
 · rw [if_neg hb]
theorem qQ {w w':World} {r:Option Nat} (h:w.drew.grownBy w' r):w.grownBy w' r:=⟨h.os,h.tape,h.output,h.size,h.block⟩
set_option maxHeartbeats 2000000 in
set_option maxRecDepth 100000 in
theorem aAw (L:Lays.n169 P ρ) (X:Builder.Extra P ρ) (b g cap:Nat) (p:Value) (cur:Array Value) (l:List UInt8) (w:World) (h0:l ≠ [])
   (hb:w.heap[b]? = some (.cells #[p,.slice (some ⟨g,0,none⟩) l.length cap] T (0,0))) (hown:w.ownsRow 0 (ρ.t 5) 1 (.slice (some ⟨g,0,none⟩) l.length cap) l.length (byteCells l))
   (hg:w.heap[g]? = some (.cells cur (ρ.t 5) (0,0))) (hnc:l.length≤cap) (hcm:cap≤maxLen) (hcs:cur.size=cap * 1) :
   Calls P (ρ.f 169) #[selfP b] w fun e w'=>e=.returned (.string ⟨l.toArray⟩)∧w.grownBy w' (some g)∧Shp w w':=by
 have hl0:l.length ≠ 0:=by simpa using h0
 have c1:w.drew.cell? ⟨b,1,none⟩=some (.slice (some ⟨g,0,none⟩) l.length cap):=by
   have:w.drew.heap[b]? = some (.cells #[p,.slice (some ⟨g,0,none⟩) l.length cap] T (0,0)):=hb
   rw [Lib.cell_of_heap this]; rfl
 have hSD:(Builtin.unsafeSliceData_ #[(ρ.t 37)] (ρ.t 127) #[.slice (some ⟨g,0,none⟩) l.length cap]).run P w.drew=.ok (.pointer (some ⟨g,0,none⟩)) w.drew:=
   Lib.run_unsafeSliceData_row _ _ _ _ _ _ (by omega)
 have hUS:(Builtin.unsafeString_ #[(ρ.t 127),(ρ.t 3)] (ρ.t 9) #[.pointer (some ⟨g,0,none⟩),.int .i64 l.length]).run P w.drew=.ok (.string ⟨l.toArray⟩) (w.drew.freeze ⟨g,0,none⟩ l.length):=by
   refine Lib.run_unsafeString_row w.drew (ρ.t 127) (ρ.t 3) (ρ.t 9) (ρ.t 5) L.t127 X.cellsByte g cur.size (by have hg':w.drew.heap[g]? = some (.cells cur (ρ.t 5) (0,0)):=hg; simp [World.shape?,hg']) l h0 (by omega) (by unfold maxLen at hcm; omega) ?_
   intro j x hx
   have:=hown.cells (g:=g) rfl j (.int .u8 x.toNat) (by simp [Lib.byteCells,hx])
   exact this
 have mixed:=L.mixed
 have t72:=L.t72; have a72:=L.a72; have z72:=L.z72; have v72:=L.v72; have u72:=run_underlying L.t72
 have t70:=L.t70; have a70:=L.a70; have z70:=L.z70; have v70:=L.v70; have u70:=run_underlying L.t70
 have t37:=L.t37; have a37:=L.a37; have z37:=L.z37; have v37:=L.v37; have u37:=run_underlying L.t37
 have t127:=L.t127; have a127:=L.a127; have z127:=L.z127; have v127:=L.v127; have u127:=run_underlying L.t127
 have t3:=L.t3; have a3:=L.a3; have z3:=L.z3; have v3:=L.v3; have u3:=run_underlying L.t3
 have t9:=L.t9; have a9:=L.a9; have z9:=L.z9; have v9:=L.v9; have u9:=run_underlying L.t9
 have t5:=X.t5; have a5:=X.a5; have z5:=X.z5; have v5:=X.v5; have u5:=run_underlying X.t5
 unfold selfP
 go_enter L.f169,Body.n169_ntmps ρ
 go_wp2
 go_region_o
 all_goals (go_wp2; go_ret; exact ⟨rfl,qQ (S5 _ _ _),aEz w.drew _ _⟩)
set_option maxHeartbeats 2000000 in
set_option maxRecDepth 100000 in
theorem C1 (L:Lays.n169 P ρ) (X:Builder.Extra P ρ) (b:Nat) (p:Value) (w:World) (hbk:w.heap[b]? = some (.cells #[p,.slice none 0 0] T (0,0))) :
   Calls P (ρ.f 169) #[selfP b] w fun e w'=>e=.returned (.string ⟨#[]⟩)∧w.grownBy w' none∧Shp w w':=by
 have hUS:=Any.unsafeString_none L X
 have c1:w.drew.cell? ⟨b,1,none⟩=some (.slice none 0 0):=by
   have:w.drew.heap[b]? = some (.cells #[p,.slice none 0 0] T (0,0)):=hbk
   rw [Lib.cell_of_heap this]; rfl
 have hSD:(Builtin.unsafeSliceData_ #[(ρ.t 37)] (ρ.t 127) #[.slice none 0 0]).run P w.drew=.ok (.pointer none) w.drew:=rfl
 have mixed:=L.mixed
 have t72:=L.t72; have a72:=L.a72; have z72:=L.z72; have v72:=L.v72; have u72:=run_underlying L.t72
 have t70:=L.t70; have a70:=L.a70; have z70:=L.z70; have v70:=L.v70; have u70:=run_underlying L.t70
 have t37:=L.t37; have a37:=L.a37; have z37:=L.z37; have v37:=L.v37; have u37:=run_underlying L.t37
 have t127:=L.t127; have a127:=L.a127; have z127:=L.z127; have v127:=L.v127; have u127:=run_underlying L.t127
 have t3:=L.t3; have a3:=L.a3; have z3:=L.z3; have v3:=L.v3; have u3:=run_underlying L.t3
 have t9:=L.t9; have a9:=L.a9; have z9:=L.z9; have v9:=L.v9; have u9:=run_underlying L.t9
 have t5:=X.t5; have a5:=X.a5; have z5:=X.z5; have v5:=X.v5; have u5:=run_underlying X.t5
 unfold selfP
 go_enter L.f169,Body.n169_ntmps ρ
 go_wp2
 go_region_o
 all_goals (go_wp2; go_ret; exact ⟨rfl,qQ ⟨rfl,rfl,rfl,aX _,fun _ _ _=>rfl⟩,Shp.refl _⟩)
set_option maxHeartbeats 2000000 in
set_option maxRecDepth 100000 in
theorem uS (L:Lays.n169 P ρ) (X:Builder.Extra P ρ) (b g:Nat) (p:Value) (cur:Array Value) (w:World) (hbk:w.heap[b]? = some (.cells #[p,.slice (some ⟨g,0,none⟩) 0 0] T (0,0))) (hg:w.heap[g]? = some (.cells cur (ρ.t 5) (0,0))) :
   Calls P (ρ.f 169) #[selfP b] w fun e w'=>e=.returned (.string ⟨#[]⟩)∧w.grownBy w' none∧Shp w w':=by
 have hUS:=Any.unsafeString_none L X
 have hlt:b < w.heap.size:=aCp hbk
 have c1:w.drew.cell? ⟨b,1,none⟩=some (.slice (some ⟨g,0,none⟩) 0 0):=by
   have:w.drew.heap[b]? = some (.cells #[p,.slice (some ⟨g,0,none⟩) 0 0] T (0,0)):=hbk
   rw [Lib.cell_of_heap this]; rfl
 have hSD:(Builtin.unsafeSliceData_ #[(ρ.t 37)] (ρ.t 127) #[.slice (some ⟨g,0,none⟩) 0 0]).run P w.drew=.ok (.pointer (some ⟨w.drew.heap.size,0,none⟩)) (w.drew.alloc (.view ⟨g,0,none⟩ (ρ.t 5))):=
   Lib.run_unsafeSliceData_zero w.drew _ _ (ρ.t 5) L.t127 ⟨g,0,none⟩ 0 ((ρ.t 5),cur.size) (by have hg':w.drew.heap[g]? = some (.cells cur (ρ.t 5) (0,0)):=hg; simp [World.shape?,hg'])
 have c2:(w.drew.alloc (.view ⟨g,0,none⟩ (ρ.t 5))).cell? ⟨b,1,none⟩=some (.slice (some ⟨g,0,none⟩) 0 0):=by
   have:(w.drew.alloc (.view ⟨g,0,none⟩ (ρ.t 5))).heap[b]? = _:=(Lib.alloc_old w.drew _ b hlt).trans hbk
   rw [Lib.cell_of_heap this]; rfl
 have c3:(w.alloc (.view ⟨g,0,none⟩ (ρ.t 5))).drew.cell? ⟨b,1,none⟩=some (.slice (some ⟨g,0,none⟩) 0 0):=c2
 have c0:w.cell? ⟨b,1,none⟩=some (.slice (some ⟨g,0,none⟩) 0 0):=c1
 have mixed:=L.mixed
 have t72:=L.t72; have a72:=L.a72; have z72:=L.z72; have v72:=L.v72; have u72:=run_underlying L.t72
 have t70:=L.t70; have a70:=L.a70; have z70:=L.z70; have v70:=L.v70; have u70:=run_underlying L.t70
 have t37:=L.t37; have a37:=L.a37; have z37:=L.z37; have v37:=L.v37; have u37:=run_underlying L.t37
 have t127:=L.t127; have a127:=L.a127; have z127:=L.z127; have v127:=L.v127; have u127:=run_underlying L.t127
 have t3:=L.t3; have a3:=L.a3; have z3:=L.z3; have v3:=L.v3; have u3:=run_underlying L.t3
 have t9:=L.t9; have a9:=L.a9; have z9:=L.z9; have v9:=L.v9; have u9:=run_underlying L.t9
 have t5:=X.t5; have a5:=X.a5; have z5:=X.z5; have v5:=X.v5; have u5:=run_underlying X.t5
 unfold selfP
 go_enter L.f169,Body.n169_ntmps ρ
 go_wp2
 go_region_o
 all_goals (go_wp2; go_ret; exact ⟨rfl,qQ ⟨rfl,rfl,rfl,by simp,fun k hk _=>Lib.alloc_old w.drew _ k hk⟩,xN _ _⟩)
set_option maxHeartbeats 2000000 in
set_option maxRecDepth 100000 in
theorem zN (L:Lays.n169 P ρ) (X:Builder.Extra P ρ) (b g cap:Nat) (p:Value) (w:World) (hc0:cap ≠ 0) (hbk:w.heap[b]? = some (.cells #[p,.slice (some ⟨g,0,none⟩) 0 cap] T (0,0))) :
   Calls P (ρ.f 169) #[selfP b] w fun e w'=>e=.returned (.string ⟨#[]⟩)∧w.grownBy w' none∧Shp w w':=by
 have hUS:=Any.unsafeString_none L X
 have c1:w.drew.cell? ⟨b,1,none⟩=some (.slice (some ⟨g,0,none⟩) 0 cap):=by
   have:w.drew.heap[b]? = some (.cells #[p,.slice (some ⟨g,0,none⟩) 0 cap] T (0,0)):=hbk
   rw [Lib.cell_of_heap this]; rfl
 have hSD:(Builtin.unsafeSliceData_ #[(ρ.t 37)] (ρ.t 127) #[.slice (some ⟨g,0,none⟩) 0 cap]).run P w.drew=.ok (.pointer (some ⟨g,0,none⟩)) w.drew:=
   Lib.run_unsafeSliceData_row _ _ _ _ _ _ hc0
 clear hc0
 have mixed:=L.mixed
 have t72:=L.t72; have a72:=L.a72; have z72:=L.z72; have v72:=L.v72; have u72:=run_underlying L.t72
 have t70:=L.t70; have a70:=L.a70; have z70:=L.z70; have v70:=L.v70; have u70:=run_underlying L.t70
 have t37:=L.t37; have a37:=L.a37; have z37:=L.z37; have v37:=L.v37; have u37:=run_underlying L.t37
 have t127:=L.t127; have a127:=L.a127; have z127:=L.z127; have v127:=L.v127; have u127:=run_underlying L.t127
 have t3:=L.t3; have a3:=L.a3; have z3:=L.z3; have v3:=L.v3; have u3:=run_underlying L.t3
 have t9:=L.t9; have a9:=L.a9; have z9:=L.z9; have v9:=L.v9; have u9:=run_underlying L.t9
 have t5:=X.t5; have a5:=X.a5; have z5:=X.z5; have v5:=X.v5; have u5:=run_underlying X.t5
 unfold selfP
 go_enter L.f169,Body.n169_ntmps ρ
 go_wp2
 go_region_o
 all_goals (go_wp2; go_ret; exact ⟨rfl,qQ ⟨rfl,rfl,rfl,aX _,fun _ _ _=>rfl⟩,Shp.refl _⟩)
theorem aGn (L:Lays.n169 P ρ) (X:Builder.Extra P ρ) (b:Nat) (p v:Value) (l:List UInt8) (w:World)
   (hb:w.heap[b]? = some (.cells #[p,v] T (0,0))) (hown:w.ownsRow 0 (ρ.t 5) 1 v l.length (byteCells l)) :
   Calls P (ρ.f 169) #[selfP b] w fun e w'=>e=.returned (.string ⟨l.toArray⟩)∧w.grownBy w' v.ownBlock∧Shp w w':=by
 have up:∀ {w':World} {r:Option Nat},w.grownBy w' none→w.grownBy w' r:=fun h=>⟨h.os,h.tape,h.output,h.size,fun k hk _=>h.block k hk (by simp)⟩
 cases l with
 | nil =>
   rcases hown.2 with ⟨rfl,_⟩ | ⟨g,cap,cur,rfl,_,hg,_,_,_,_⟩
   · exact (C1 L X b p w hb).mono fun _ _ h=>⟨h.1,up h.2.1,h.2.2⟩
   · by_cases hc0:cap=0
     · subst hc0
       exact (uS L X b g p cur w hb hg).mono fun _ _ h=>⟨h.1,up h.2.1,h.2.2⟩
     · exact (zN L X b g cap p w hc0 hb).mono fun _ _ h=>⟨h.1,up h.2.1,h.2.2⟩
 | cons x r=>
   rcases hown.2 with ⟨_,hz⟩ | ⟨g,cap,cur,rfl,_,hg,hnc,hcm,hcs,_⟩
   · simp at hz
   · exact (aAw L X b g cap p cur (x::r) w (by simp) hb hown hg hnc hcm hcs).mono fun _ _ h=>h
end
open Go.Shelf Go.RowKit Go.Lib Go.Proofs

abbrev oQ (T:TypeId) (v:Value):AObj:=.held false fun x=>∃ b p,x=some (b,.cells #[p,v] T (0,0))∧(p=.pointer Option.none∨p=selfP b)
def qT (e:TypeId) (v:Value) (l:List UInt8):AObj:=.held true fun x=>
 (x=Option.none∧v=.slice Option.none 0 0∧l=[]) ∨
 ∃ g cap cur,x=some (g,.cells cur e (0,0))∧v=.slice (some ⟨g,0,Option.none⟩) l.length cap∧l.length≤cap∧cap≤maxLen∧cur.size=cap * 1∧cur.toList.take (l.length * 1)=byteCells l
@[simp] theorem bMq {T:TypeId} {v:Value}:(oQ T v).mv=false:=rfl
@[simp] theorem bMp {e:TypeId} {v:Value} {l:List UInt8}:(qT e v l).mv=true:=rfl
structure BSt (T e:TypeId) (X:Ctx) (w:World) (v:Value) (l:List UInt8) (b:Nat) (p:Value):Prop where
 i0:X.ι 0=some (b,0)
 f0:¬ X.F b
 hb:w.heap[b]? = some (.cells #[p,v] T (0,0))
 hp:p=.pointer Option.none∨p=selfP b
 own:w.ownsRow 0 e 1 v l.length (byteCells l)
 i1:X.ι 1=v.ownBlock.map fun g=>(g,0)
 f1:∀ g,v.ownBlock=some g→¬ X.F g
 i2:∀ i,2≤i→X.ι i=Option.none
section
variable {P:Program} {G:Glob} {T e:TypeId} {X:Ctx} {w:World} {v:Value} {l:List UInt8}
theorem gfb {h:List AObj} (g:GH G X w h) {k:Nat} (hk:X.F k):k < w.heap.size:=g.fbnd k hk
theorem aWp (g:GH G X w [oQ T v,qT e v l]):∃ b p,BSt T e X w v l b p:=by
 have o0:=g.objs 0 _ rfl
 have o1:=g.objs 1 _ rfl
 unfold oQ at o0
 unfold qT at o1
 have hi2:∀ i,2≤i→X.ι i=Option.none:=fun i hi=>by
   cases h:X.ι i with
   | none=>rfl
   | some bo=>obtain ⟨ob,ho⟩:=g.dom _ _ h; have:=aK ho; simp at this; omega
 have hn:byteCells l=byteCells l:=rfl
 cases o0 with
 | absent h0 hh=>simp [AObj.isH] at hh
 | away h0 h1=>obtain ⟨b,p,h2,_⟩:=h1; cases h2
 | held h0 h1 h2 h3=>
   obtain ⟨b,p,h4,h5⟩:=h3
   cases h4
   cases o1 with
   | absent k0 kh=>simp [AObj.isH] at kh
   | away k0 k1=>
     rcases k1 with ⟨_,rfl,rfl⟩ | ⟨g',cap,cur,k2,_⟩
     · exact ⟨_,p,h0,h1,h2,h5,World.ownsRow_nil _ _ _ _,by rw [k0]; rfl,(fun g hg=>by cases hg),hi2⟩
     · cases k2
   | held k0 k1 k2 k3=>
     rcases k3 with ⟨k4,_⟩ | ⟨g',cap,cur,k4,rfl,k5,k6,k7,k8⟩
     · cases k4
     · cases k4
       refine ⟨_,p,h0,h1,h2,h5,⟨by rw [byteCells_length]; omega,.inr ⟨_,cap,cur,rfl,aT _,k2,k5,k6,k7,k8⟩⟩,by rw [k0]; rfl,fun g hg=>?_,hi2⟩
       cases hg; exact k1
theorem bIc {b:Nat} {p:Value} (s:BSt T e X w v l b p) (hT:T ≠ e) (hfb:∀ b,X.F b→b < w.heap.size) (hgl:∀ k a,G k=some a→GRel X w [oQ T v,qT e v l] k a):GH G X w [oQ T v,qT e v l]:=by
 have hne:v.ownBlock ≠ some b:=ownBlock_ne s.own s.hb hT
 have hsome:∀ g,v.ownBlock=some g→g < w.heap.size:=fun g hg=>by
   obtain ⟨cur,cap,h1,h2⟩:=bDs s.own hg
   exact aCp h1
 refine ⟨?_,?_,?_,?_,hfb,hgl⟩
 · intro id ob hid
   match id with
   | 0=>
     simp at hid; subst hid
     exact .held s.i0 s.f0 s.hb ⟨b,p,rfl,s.hp⟩
   | 1=>
     simp at hid; subst hid
     rcases s.own.2 with ⟨h1,h2⟩ | ⟨g,cap,cur,h1,_,h2,h3,h4,h5,h6⟩
     · refine .away (by rw [s.i1,h1]; rfl) (.inl ⟨rfl,h1,List.eq_nil_of_length_eq_zero h2⟩)
     · exact .held (b:=g) (by rw [s.i1,h1]; rfl) (s.f1 g (by rw [h1]; rfl)) h2 (.inr ⟨g,cap,cur,rfl,h1,h3,h4,h5,h6⟩)
   | id+2=>simp at hid
 · intro id bo hb
   match id with
   | 0=>exact ⟨_,rfl⟩
   | 1=>exact ⟨_,rfl⟩
   | id+2=>rw [s.i2 _ (by omega)] at hb; cases hb
 · intro id id' x o o' hb hb'
   have key:∀ o,X.ι 1=some (x,o)→X.ι 0=some (x,o')∨X.ι 0=some (x,o)→False:=fun o h1 h0=>by
     rw [s.i1] at h1
     obtain ⟨g,hg,hg'⟩:=bG.1 h1
     cases hg'
     rw [s.i0] at h0
     rcases h0 with h0 | h0 <;> cases h0 <;> exact hne hg
   match id,id' with
   | 0,0=>rfl
   | 1,1=>rfl
   | 0,1=>exact (by
       rw [s.i1] at hb'
       obtain ⟨g,hg,hg'⟩:=bG.1 hb'
       cases hg'
       rw [s.i0] at hb
       cases hb
       exact absurd hg hne)
   | 1,0=>exact (key _ hb (.inl hb')).elim
   | id+2,_=>rw [s.i2 _ (by omega)] at hb; cases hb
   | _,id'+2=>rw [s.i2 _ (by omega)] at hb'; cases hb'
 · intro id x o hb
   match id with
   | 0=>rw [s.i0] at hb; cases hb; exact aCp s.hb
   | 1=>
     rw [s.i1] at hb
     obtain ⟨g,hg,hg'⟩:=bG.1 hb
     cases hg'
     exact hsome _ hg
   | id+2=>rw [s.i2 _ (by omega)] at hb; cases hb
end
section
variable {P:Program} {ρ:Ren} {G:Glob} {T:TypeId}
theorem V6 (L:bMy P ρ T) (Y:Builder.Extra P ρ) (hT:T ≠ ρ.t 5) (hcal:gP P (ρ.f 166)=true) {v:Value} {l s:List UInt8} (hlen:l.length+s.length≤140737488355328) :
   ACalls P G (ρ.f 166) [.ptr 0 0,.s s] [oQ T v,qT (ρ.t 5) v l] (fun r h'=>r=.tup [.i .i64 s.length,.p .nilIface]∧∃ v',h'=[oQ T v',qT (ρ.t 5) v' (l++s)]):=by
 refine ⟨hcal,?_⟩
 intro X w vs g hvl hr
 obtain ⟨a0,a1,rfl⟩:∃ a0 a1,vs = #[a0,a1]:=by
   obtain ⟨vs⟩:=vs
   match vs,hvl with
   | [a0,a1],_=>exact ⟨a0,a1,rfl⟩
 have r0:=hr 0 _ a0 rfl rfl
 have r1:=hr 1 _ a1 rfl rfl
 obtain ⟨b,p,st⟩:=aWp g
 obtain rfl:a0=selfP b:=by
   cases r0 with
   | ptr hid hnd hι=>rw [st.i0] at hι; cases hι; rfl
   | dead hr0 hid hv=>simp [AV.refs] at hr0; subst hr0; simp [oQ] at hid
 obtain rfl:a1=.string ⟨s.toArray⟩:=by
   cases r1 with
   | s l=>rfl
   | dead hr0 hid hv=>simp [AV.refs] at hr0
 have hsc:strCells ⟨s.toArray⟩=byteCells s:=by rw [strCells_eq]
 have hss:(ByteArray.mk s.toArray).size=s.length:=by simp [ByteArray.size]
 refine (aNq L Y hT b p v l.length (byteCells l) ⟨s.toArray⟩ w st.hb st.hp st.own (by rw [hss]; exact hlen)).mono ?_
 rintro e w' ⟨rfl,v',hb',hown',hos,htape,hout,hsize,hold,hnew,hshp⟩
 rw [hsc,hss,← byteCells_append,← aG] at hown'
 rw [hss]
 have st':BSt T (ρ.t 5) ⟨X.F,fun i=>if i=1 then v'.ownBlock.map (fun g=>(g,0)) else X.ι i⟩ w' v' (l++s) b (selfP b):=
   ⟨st.i0,st.f0,hb',.inr rfl,hown',rfl,fun g' hg hf=>by
     rcases hnew g' hg with h | h
     · exact st.f1 g' h hf
     · have:=gfb g hf; omega,fun i hi=>by simp only; rw [if_neg (by omega)]; exact st.i2 i hi⟩
 have hfr:∀ k,k < w.heap.size→(∀ id o,X.ι id ≠ some (k,o))→w'.heap[k]? = w.heap[k]? := fun k hk hno=>
   hold k hk (fun e=>hno 0 0 (by rw [st.i0,e])) (fun e=>hno 1 0 (by rw [st.i1,← e]; rfl))
 have hFk:∀ k,X.F k→w'.heap[k]? = w.heap[k]? := fun k hk=>hold k (g.fbnd k hk) (fun e=>st.f0 (e ▸ hk)) (fun e=>st.f1 k e.symm hk)
 have ext:Ext X w [oQ T v,qT (ρ.t 5) v l] ⟨X.F,fun i=>if i=1 then v'.ownBlock.map (fun g=>(g,0)) else X.ι i⟩ w' [oQ T v',qT (ρ.t 5) v' (l++s)]:=by
   refine ⟨fun _ h=>h,hFk,hshp,?_⟩
   intro id o ho
   match id with
   | 0=>simp at ho; subst ho; exact ⟨_,rfl,.inr ⟨rfl,.inl rfl⟩⟩
   | 1=>simp at ho; subst ho; exact ⟨_,rfl,.inr ⟨rfl,.inr rfl⟩⟩
   | id+2=>simp at ho
 refine ⟨_,_,_,_,rfl,⟨rfl,v',rfl⟩,bIc st' hT (fun k hk=>eF (g.fbnd k hk) hsize) (fun k a hk=>(g.gl k a hk).mono ext),?_,⟨⟨hsize,hos,htape,hout,hfr,?_,fun k hk=>.inl hk⟩,ext,?_⟩⟩
 · refine .tup rfl ?_
   intro j a v ha hv
   match j with
   | 0=>simp at ha hv; subst ha; subst hv; exact .i _ _
   | 1=>simp at ha hv; subst ha; subst hv; exact .p _ rfl
   | j+2=>simp at ha
 · intro id k o hk
   by_cases h1:id=1
   · subst h1
     simp only [if_true] at hk
     obtain ⟨g',hg,hg'⟩:=bG.1 hk
     cases hg'
     rcases hnew k hg with h | h
     · exact .inr ⟨1,0,by rw [st.i1,h]; rfl⟩
     · exact .inl h
   · simp only [if_neg h1] at hk
     exact .inr ⟨id,o,hk⟩
 · intro id z hid
   match id with
   | 0=>simp [oQ] at hid
   | 1=>simp [qT] at hid
   | id+2=>simp at hid
theorem L3 (L:Lays.n169 P ρ) (Y:Builder.Extra P ρ) (hT:T ≠ ρ.t 5) (hcal:gP P (ρ.f 169)=true) {v:Value} {l:List UInt8} :
   ACalls P G (ρ.f 169) [.ptr 0 0] [oQ T v,qT (ρ.t 5) v l] (fun r h'=>r=.s l∧h'=[.dead,.dead]):=by
 refine ⟨hcal,?_⟩
 intro X w vs g hvl hr
 obtain ⟨a0,rfl⟩:∃ a0,vs = #[a0]:=by
   obtain ⟨vs⟩:=vs
   match vs,hvl with
   | [a0],_=>exact ⟨a0,rfl⟩
 have r0:=hr 0 _ a0 rfl rfl
 obtain ⟨b,p,st⟩:=aWp g
 obtain rfl:a0=selfP b:=by
   cases r0 with
   | ptr hid hnd hι=>rw [st.i0] at hι; cases hι; rfl
   | dead hr0 hid hv=>simp [AV.refs] at hr0; subst hr0; simp [oQ] at hid
 refine (aGn L Y b p v l w st.hb st.own).mono ?_
 rintro e w' ⟨rfl,gr,hshp⟩
 have ext:Ext X w [oQ T v,qT (ρ.t 5) v l] ⟨X.F,fun _=>Option.none⟩ w' [.dead,.dead]:=by
   refine ⟨fun _ h=>h,fun k hk=>gr.block k (g.fbnd k hk) (fun e=>st.f1 k e.symm hk),hshp,?_⟩
   intro id o ho
   match id with
   | 0=>exact ⟨_,rfl,.inl rfl⟩
   | 1=>exact ⟨_,rfl,.inl rfl⟩
   | id+2=>simp at ho
 refine ⟨_,_,_,⟨X.F,fun _=>Option.none⟩,rfl,⟨rfl,rfl⟩,⟨?_,fun id bo h=>(by cases h),fun id id' b o o' h=>(by cases h),fun id b o h=>(by cases h),fun k hk=>eF (g.fbnd k hk) gr.size,fun k a hk=>(g.gl k a hk).mono ext⟩,.s l,⟨⟨gr.size,gr.os,gr.tape,gr.output,?_,fun id b o h=>(by cases h),fun k hk=>.inl hk⟩,ext,?_⟩⟩
 · intro id ob hid
   match id with
   | 0=>simp at hid; subst hid; exact .absent rfl rfl
   | 1=>simp at hid; subst hid; exact .absent rfl rfl
   | id+2=>simp at hid
 · intro k hk hno
   exact gr.block k hk (fun e=>hno 1 0 (by rw [st.i1,← e]; rfl))
 · intro id z hid
   match id with
   | 0=>simp [oQ] at hid
   | 1=>simp [qT] at hid
   | id+2=>simp at hid
end
section
variable {P:Program} {G:Md} {T e:TypeId} {os:List fI} {K:List AV→List AObj→Prop} {env:List AV} {h:List AObj} {d:Option Nat}
theorem aTo {σ:Nat→Nat} {v:Value}:(oQ T v).ren σ=oQ T v:=rfl
theorem aTn {σ:Nat→Nat} {v:Value} {l:List UInt8}:(qT e v l).ren σ=qT e v l:=rfl
theorem aSo {N:Nat}:emb [0,1] N 0=0:=rfl
abbrev Wr (P:Program) (G:Glob) (T e:TypeId) (f:FuncId) (A:List AV) (r:AV) (l l':List UInt8):Prop:=
 ∀ v,ACalls P G f A [oQ T v,qT e v l] (fun r0 h1=>r0=r∧∃ v' tl,h1=oQ T v'::qT e v' l'::tl)
theorem aGi {f:FuncId} {A A0:List AV} {l l':List UInt8} {r:AV} {v:Value} (id iu:Nat) (hG:oT G) (s:Wr P G T e f A0 r l l') (hr:pers r=true) (hne:id ≠ iu)
   (hid:h[id]? = some (oQ T v)) (hiu:h[iu]? = some (qT e v l)) (hA:A=renL (emb [id,iu] h.length) A0)
   (k:∀ v' g,dB P G none os K (gJ env d r) ((h.set id (oQ T v')).set iu (qT e v' l')++g)):tV P G none f A d os K env h:=by
 refine gB (frame (is:=[id,iu]) hG (s v) (by simp [hne]) rfl (fun i o ho=>?_) hA) ?_
 · match i with
   | 0=>simp only [bP,aA] at ho; subst ho; exact hid
   | 1=>simp only [cA,bP,aA] at ho; subst ho; exact hiu
   | i+2=>simp at ho
 · rintro r' h' ⟨r0,h1,⟨rfl,v',tl,rfl⟩,_,rfl,rfl⟩
   rw [wJ _ _ hr]
   have e1:pR h [id,iu] (emb [id,iu] h.length) (oQ T v'::qT e v' l'::tl)=(h.set id (oQ T v')).set iu (qT e v' l')++tl.map (AObj.ren (emb [id,iu] h.length)):=by
     simp only [pR,aO,kH,aD,aY,cZ,Nat.reduceAdd,eW,dX,aTo,aTn]
   rw [e1]
   exact k v' _
end
section
variable {P:Program} {G:Md} {T e:TypeId} {os:List fI} {K:List AV→List AObj→Prop} {env:List AV} {h:List AObj} {d:Option Nat}
theorem aWo {f:FuncId} {A:List AV} {l:List UInt8} {v:Value} (id iu:Nat) (hG:oT G) (s:ACalls P G f [.ptr 0 0] [oQ T v,qT e v l] (fun r h'=>r=.s l∧h'=[.dead,.dead])) (hne:id ≠ iu)
   (hid:h[id]? = some (oQ T v)) (hiu:h[iu]? = some (qT e v l)) (hA:A=[.ptr id 0])
   (k:dB P G none os K (gJ env d (.s l)) ((h.set id .dead).set iu .dead)):tV P G none f A d os K env h:=by
 refine gB (frame (is:=[id,iu]) hG s (by simp [hne]) rfl (fun i o ho=>?_) (by rw [hA]; rfl)) ?_
 · match i with
   | 0=>simp only [bP,aA] at ho; subst ho; exact hid
   | 1=>simp only [cA,bP,aA] at ho; subst ho; exact hiu
   | i+2=>simp at ho
 · rintro r' h' ⟨r0,h1,⟨rfl,rfl⟩,_,rfl,rfl⟩
   have e1:pR h [id,iu] (emb [id,iu] h.length) [.dead,.dead]=(h.set id .dead).set iu .dead:=by
     simp only [pR,aO,bE,kH,aD,aY,cZ,Nat.reduceAdd,eW,List.drop_nil,dX,List.append_nil]
     rfl
   rw [e1]
   exact k
end
abbrev M5:Value:=.slice Option.none 0 0
section
variable {P:Program} {G:Md} {Q:Exit→List AV→List AObj→Prop} {env:List AV} {h:List AObj}
theorem aDu {x y:Code} (k:AW P G x (B0 (fun env h=>AW P G y Q env h) Q) env h):AW P G (.seq x y) Q env h:=by
 intro X w a g r
 refine wp_seq (wp_mono (k X w a g r) ?_)
 intro e' a' w' k
 cases e' with
 | normal=>
   obtain ⟨env',h',X',k1,k2,k3,k4⟩:=k
   exact wp_mono (k1 X' w' a' k2 k3) (fun e2 a2 w2 k5=>k5.trans k4)
 | _=>exact k
theorem aWq {id:Nat} {o:Oper} {T:TypeId} (e:TypeId) (ho:o.op=.alloc T) (hg:o.guard=Option.none) {i:TypeInfo} {z:Value} (hi:P.info? T=some i) (hz:i.zero=some z) (hc:z.cells = #[.pointer Option.none,M5])
   (k:Q .normal (gJ env o.dst (.ptr h.length 0)) (h++[oQ T M5,qT e M5 []])):AW P G (.region id #[o] false) Q env h:=by
 intro X w a g r
 have hp:=gH.alloc w (.cells #[.pointer Option.none,M5] T (0,0))
 have hnF:¬ X.F w.heap.size:=fun f=>by have:=g.fbnd _ f; omega
 obtain ⟨g1,t1⟩:=tK g hp.grew (oQ T M5) (some (w.heap.size,0)) (fun b c hb=>by cases hb; exact ⟨aX _,by have:=hp.size; omega⟩)
   (.held (b:=w.heap.size) (Ctx.upd_same _ _ _) hnF hp.at ⟨_,.pointer Option.none,rfl,.inl rfl⟩)
 obtain ⟨g2,t2⟩:=tK g1 (wI.refl _) (qT e M5 []) Option.none (fun b c hb=>by cases hb) (.away (Ctx.upd_same _ _ _) (.inl ⟨rfl,rfl,rfl⟩))
 rw [bW] at g2 t2
 have t12:=t1.trans t2
 have rp:RV ((X.upd h.length (some (w.heap.size,0))).upd (h++[oQ T M5]).length Option.none) (w.alloc (.cells #[.pointer Option.none,M5] T (0,0))) (h++([oQ T M5]++[qT e M5 []])) (.ptr h.length 0) (.pointer (some ⟨w.heap.size,0,Option.none⟩)):=by
   have:=RV.ptr (X:=(X.upd h.length (some (w.heap.size,0))).upd (h++[oQ T M5]).length Option.none) (w:=w.alloc (.cells #[.pointer Option.none,M5] T (0,0))) (h:=h++([oQ T M5]++[qT e M5 []])) (id:=h.length) (off:=0) (ob:=oQ T M5) (b:=w.heap.size) (o:=0) (by simp) ⟨by simp,rfl⟩ (by rw [Ctx.upd_other _ _ (by simp)]; exact Ctx.upd_same _ _ _)
   simpa using this
 have hrun:(execOp a.eval o).run P w=.ok (.value (.pointer (some ⟨w.heap.size,0,Option.none⟩))) (w.alloc (.cells #[.pointer Option.none,M5] T (0,0))):=by
   unfold execOp
   simp only [ho]
   simp [Instr.alloc,mS hi hz,newVar,hc]
   rfl
 refine wp_region_list ?_
 show wpList P #[o] _ [o] a w
 refine wpList_plain hg (fun K hK=>?_)
 unfold Oper.wp
 rw [hrun]
 exact hK _ _ ⟨_,_,_,k,g2,(r.mono t12.ext).put _ rp,t12⟩
end
end Go.Vo
