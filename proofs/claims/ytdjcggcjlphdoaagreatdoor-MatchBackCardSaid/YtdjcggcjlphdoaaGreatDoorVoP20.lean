/-
  The abstract layer, part Y: code over abstract states, worked out: a program that computes all ends of a run, and that its answer is a contract. It speaks of any program; no condition.
-/
import Derived.Test.YtdjcggcjlphdoaaGreatDoorVoP16
set_option linter.unusedVariables false
set_option linter.unusedSimpArgs false
namespace Go.Vo
abbrev Ends:=Option (List (AV×List AObj))
def bJf:Option (AV×List AObj)→Ends
 |some p=>some [p]
 |none=>none
theorem xF{x:Option (AV×List AObj)}{l:List (AV×List AObj)}{K:AV→List AObj→Prop}(e:bJf x=some l)(k:∀p∈l,K p.1 p.2):F9 x K:=by
 cases x with
 |none=>cases e
 |some p=>cases e;exact k p (by simp)
def aRj{α β:Type}:List α→(α→Option (List β))→Option (List β)
 | [],_=>some []
 |p::ps,k=>match k p,aRj ps k with
  |some a,some b=>some (a++b)
  |_,_=>none
def aBu{α β:Type}(x:Option (List α))(k:α→Option (List β)):Option (List β):=
 match x with
 |none=>none
 |some [p]=>k p
 |some l=>aRj l k
theorem aBv{α β:Type}{k:α→Option (List β)}:∀{l:List α} {r:List β},aRj l k=some r→∀p∈l,∃a,k p=some a∧∀x∈a,x∈r
 | [],_,_,p,hp=>by cases hp
 |q :: l,r,e,p,hp=>by
  rw[aRj]at e;cases h1:k q with
  |none=>rw[h1]at e;cases e
  |some a=>
   cases h2:aRj l k with
   |none=>rw[h1,h2]at e;cases e
   |some b=>
    rw[h1,h2]at e;cases e;rcases cH.1 hp with rfl|hp
    ·exact⟨a,h1,fun x hx=>dK _ hx⟩
    ·obtain⟨c,hc,hs⟩:=aBv h2 p hp;exact⟨c,hc,fun x hx=>eO _ (hs x hx)⟩
theorem wD{α β:Type}{x:Option (List α)}{k:α→Option (List β)}{r:List β}(e:aBu x k=some r):∃l,x=some l∧∀p∈l,∃a,k p=some a∧∀y∈a,y∈r:=by
 unfold aBu at e;split at e
 ·cases e
 ·rename_i p;exact⟨[p],rfl,fun q hq=>by rw[aV]at hq;subst hq;exact⟨r,e,fun y hy=>hy⟩⟩
 ·rename_i l _;exact⟨l,rfl,aBv e⟩
def DR.oldB(M:DR)(id:Nat):Bool:=Nat.blt id M.N && !M.L.contains id
def DR.mutB(M:DR)(id:Nat):Bool:=Nat.ble M.N id||M.L.contains id
theorem DR.oldB_ok{M:DR}{id:Nat}(h:M.oldB id=true):M.old id:=by
 unfold DR.oldB at h;rw[aA,aOx]at h;unfold DR.old;split
 ·exact h.1
 ·rename_i e;refine⟨h.1,fun hm=>?_⟩;have h2:=h.2;rw[e,eF,List.contains_eq_mem]at h2;simp only[decide_eq_false_iff_not]at h2;exact h2 hm
theorem DR.mutB_ok{M:DR}{id:Nat}(h:M.mutB id=true):M.mut id:=by
 unfold DR.mutB at h;rw[cC,Nat.ble_eq]at h;unfold DR.mut;split
 ·rename_i e;rw[e]at h;exact h.resolve_right (by simp)
 ·rename_i e;rw[e,jW]at h;exact h
def aIo(N:DR)(a:AV):Bool:=
 match a.refs with
 |some id=>N.oldB id
 |Option.none=>true
def aIs(N:DR):AV→Bool
 | .e0=>true
 | .hs id _ _ _=>N.mutB id
 | .ptr id _=>N.mutB id
 |_=>false
def O2(N:DR):List AV→Bool
 | []=>true
 |a::l=>aIo N a&&O2 N l
theorem aQd{N:DR}{a:AV}(h:aIo N a=true):lS N a:=by
 unfold aIo at h;unfold lS;cases hr:a.refs with
 |none=>trivial
 |some id=>rw[hr]at h;exact DR.oldB_ok h
theorem X5{N:DR}{a:AV}(h:aIs N a=true):wU N a:=by
 cases a with
 |e0=>trivial
 |hs=>exact DR.mutB_ok h
 |ptr=>exact DR.mutB_ok h
 |_=>cases h
theorem vX{N:DR}:∀{l:List AV},O2 N l=true→uI N l
 | [],_=>trivial
 |a::l,h=>by
  rw[O2,aA]at h;exact⟨aQd h.1,vX h.2⟩
def bRb(ev:Operand→AV)(N:DR)(op:Op):Bool:=
 match op with
 | .call c=>match c.callee with
   | .builtin .append=>match c.args.toList.map ev with
     | [s,_]=>aIs N s
     |_=>false
   | .value _=>true
   |_=>O2 N (op.operands.toList.map ev)
 | .store _ a _=>aIs N (ev a)
 | .buildSlice .. => true
 |op=>O2 N (op.operands.toList.map ev)
theorem bGx{G:Glob}{N:DR}{op:Op}{env:List AV}(h:bRb (aev G env) N op=true):aBn G N op env:=by
 cases op with
 |call c=>
  obtain⟨callee,args,ats⟩:=c;cases callee with
  |value f=>exact trivial
  |invoke a b=>exact vX h
  |builtin b=>
   cases b with
   |append=>
    simp only[bRb]at h;simp only[aBn];split at h
    ·rename_i s x hh;rw[hh];exact X5 h
    ·cases h
   |_=>exact vX h
 |store T a v=>exact X5 h
 |buildSlice T n ps=>trivial
 |_=>exact vX h
def ckB(ev:Operand→AV)(dr:Option DR)(ck:Bool)(op:Op):Bool:=
 match ck,dr with
 |true,some N=>bRb ev N op
 |_,_=>true
theorem cAc{G:Glob}{dr:Option DR}{ck:Bool}{op:Op}{env:List AV}(h:ckB (aev G env) dr ck op=true):aRb G dr ck op env:=by
 unfold ckB at h;unfold aRb;split at h
 ·exact bGx h
 ·rename_i hne;split
  ·rename_i N;exact absurd rfl (hne N rfl)
  ·trivial
inductive ET where
 |lf (x:AV)
 |nd (l r:ET)
def ET.get:ET→Nat→AV
 | .lf x,_=>x
 | .nd l r,i=>match Nat.mod i 2 with
   |0=>l.get (Nat.div i 2)
   |_+1=>r.get (Nat.div i 2)
def ET.set:ET→Nat→AV→ET
 | .lf _,_,y=>.lf y
 | .nd l r,i,y=>match Nat.mod i 2 with
   |0=>.nd (l.set (Nat.div i 2) y) r
   |_+1=>.nd l (r.set (Nat.div i 2) y)
def ET.setK{α:Type}:ET→Nat→AV→(ET→α)→α
 | .lf _,_,y,k=>k (.lf y)
 | .nd l r,i,y,k=>match Nat.mod i 2 with
   |0=>l.setK (Nat.div i 2) y fun l'=>k (.nd l' r)
   |_+1=>r.setK (Nat.div i 2) y fun r'=>k (.nd l r')
def ET.full:Nat→ET→Prop
 |0,.lf _=>True
 |k+1,.nd l r=>l.full k∧r.full k
 |_,_=>False
def ET.mk:Nat→ET
 |0=>.lf .u
 |k+1=>.nd (ET.mk k) (ET.mk k)
theorem ET.setK_eq{α:Type}:∀(e:ET) (i:Nat) (y:AV) (k:ET→α),e.setK i y k=k (e.set i y)
 | .lf _,i,y,k=>rfl
 | .nd l r,i,y,k=>by
   rw[ET.setK,ET.set];split
   ·rw[ET.setK_eq l]
   ·rw[ET.setK_eq r]
theorem ET.full_mk:∀k,(ET.mk k).full k
 |0=>trivial
 |k+1=>⟨ET.full_mk k,ET.full_mk k⟩
theorem ET.full_set:∀(k:Nat) (e:ET) (i:Nat) (y:AV),e.full k→(e.set i y).full k
 |0,.lf _,i,y,h=>trivial
 |k+1,.nd l r,i,y,h=>by
  rw[ET.set];split
  ·exact⟨ET.full_set k l _ y h.1,h.2⟩
  ·exact⟨h.1,ET.full_set k r _ y h.2⟩
 |0,.nd _ _,_,_,h=>h.elim
 |_+1,.lf _,_,_,h=>h.elim
theorem ET.get_set:∀(k:Nat) (e:ET) (i j:Nat) (y:AV),e.full k→i<2^k→j<2^k→(e.set i y).get j=if i=j then y else e.get j
 |0,.lf x,i,j,y,h,hi,hj=>by
  have:i=j:=by simp at hi hj;omega
  rw[if_pos this];rfl
 |k + 1,.nd l r,i,j,y,h,hi,hj=>by
  have e1:Nat.mod i 2=i % 2:=rfl;have e2:Nat.mod j 2=j % 2:=rfl;have e3:Nat.div i 2=i / 2:=rfl;have e4:Nat.div j 2=j / 2:=rfl;have hi2:i / 2<2^k:=by rw[Nat.pow_succ]at hi;omega
  have hj2:j / 2<2^k:=by rw[Nat.pow_succ]at hj;omega
  have gl:=ET.get_set k l (i / 2) (j / 2) y h.1 hi2 hj2;have gr:=ET.get_set k r (i / 2) (j / 2) y h.2 hi2 hj2;rw[ET.set];rcases Nat.mod_two_eq_zero_or_one i with a|a<;>rcases Nat.mod_two_eq_zero_or_one j with b|b<;>simp only[ET.get,e1,e2,e3,e4,a,b]
  ·rw[gl];by_cases hij:i=j
   ·rw[if_pos hij,if_pos (by omega)]
   ·rw[if_neg hij,if_neg (by omega)]
  ·rw[if_neg (by omega)]
  ·rw[if_neg (by omega)]
  ·rw[gr];by_cases hij:i=j
   ·rw[if_pos hij,if_pos (by omega)]
   ·rw[if_neg hij,if_neg (by omega)]
 |0,.nd _ _,_,_,_,h,_,_=>h.elim
 |_+1,.lf _,_,_,_,h,_,_=>h.elim
theorem ET.get_mk:∀(k i:Nat),(ET.mk k).get i=.u
 |0,i=>rfl
 |k+1,i=>by
  rw[ET.mk,ET.get];split
  ·exact ET.get_mk k _
  ·exact ET.get_mk k _
def evT(G:Glob)(n:Nat)(e:ET):Operand→AV
 | .tmp t=>match Nat.blt t n with
   |true=>e.get t
   |false=>.u
 | .const v=>aZw v
 | .global g=>(G g).getD .u
 | .func f=>.fn f [] []
structure aCk(n k:Nat)(e:ET)(env:List AV):Prop where
 len:env.length=n
 le:n≤2^k
 full:e.full k
 get:∀t,t<n→e.get t=env.getD t .u
theorem aZp{t n:Nat}:Nat.blt t n=decide (t<n):=by
 by_cases h:t<n
 ·rw[decide_eq_true h,aOx];exact h
 ·rw[decide_eq_false h];exact dD.2 fun e=>h (by rwa[aOx]at e)
theorem aCk.ev{n k:Nat}{e:ET}{env:List AV}(r:aCk n k e env)(G:Glob):evT G n e=aev G env:=by
 funext x;cases x with
 |tmp t=>
  simp only[evT,aev];by_cases h:t<n
  ·simp only[aZp,decide_eq_true h];exact r.get t h
  ·have h3:env.length≤t:=by
    rw[r.len];exact Nat.le_of_not_lt h
   simp only[aZp,decide_eq_false h];rw[fN,iQ h3];rfl
 |_=>rfl
theorem aCk.put{n k:Nat}{e:ET}{env:List AV}(r:aCk n k e env){d:Nat}(hd:d<n)(y:AV):aCk n k (e.set d y) (env.set d y):=by
 refine⟨by simp[r.len],r.le,ET.full_set k e d y r.full,fun t ht=>?_⟩;have hk:=r.le;have hl:=r.len;rw[ET.get_set k e d t y r.full (by omega) (by omega)];by_cases h:d=t
 ·subst h;simp[List.getD,hl,hd]
 ·rw[if_neg h,r.get t ht];simp[List.getD,h]
def aXd{α:Type}(m:Nat)(k:Nat→α):α:=match m with
 |0=>k 0
 |m+1=>k (Nat.succ m)
def aXf{α:Type}(n:Int)(k:Int→α):α:=match n with
 | .ofNat m=>aXd m fun m=>k (.ofNat m)
 | .negSucc m=>aXd m fun m=>k (.negSucc m)
def aXb{α:Type}(a:AV)(k:AV→α):α:=match a with
 | .u=>k .u
 | .b true=>k (.b true)
 | .b false=>k (.b false)
 | .i kd n=>aXf n fun n=>k (.i kd n)
 | .s l=>k (.s l)
 | .p v=>k (.p v)
 | .e0=>k .e0
 | .sl a n=>k (.sl a n)
 | .own s a n=>k (.own s a n)
 | .hs a b c d=>k (.hs a b c d)
 | .ptr a b=>k (.ptr a b)
 | .box a n=>k (.box a n)
 | .mp a=>k (.mp a)
 | .mapv a b=>k (.mapv a b)
 | .fn f a b=>k (.fn f a b)
 | .agg a=>k (.agg a)
 | .tup a=>k (.tup a)
theorem aXc{α:Type}(m:Nat)(k:Nat→α):aXd m k=k m:=by cases m<;>rfl
theorem aXe{α:Type}(m:Int)(k:Int→α):aXf m k=k m:=by cases m<;>(simp only[aXf];rw[aXc])
theorem aXa{α:Type}(a:AV)(k:AV→α):aXb a k=k a:=by
 cases a with
 |b x=>cases x<;>rfl
 |i kd n=>simp only[aXb];rw[aXe]
 |_=>rfl
def aFl{α:Type}:List AObj→(List AObj→α)→α
 | [],k=>k []
 |o::h,k=>aFl h fun h'=>k (o::h')
theorem aFk{α:Type}:∀(h:List AObj) (k:List AObj→α),aFl h k=k h
 | [],k=>rfl
 |o::h,k=>by rw[aFl,aFk]
abbrev aKp:=Bool→FuncId→List AV→List AObj→Ends
def cFv(P : Program)(ev:Operand→AV)(h:List AObj):Op→Option (AV×List AObj)
 | .move x| .assign x=>some (ev x,h)
 | .pick c a b=>match ev c with
   | .b t=>some (if t then ev a else ev b,h)
   |_=>Option.none
 | .alloc T=>match zeroOf P T with
   |some cells=>some (.ptr h.length 0,h++[.box false cells])
   |Option.none=>Option.none
 | .box _ x=>match kY (ev x)with
   |some cells=>some (.ptr h.length 0,h++[.box false cells])
   |Option.none=>Option.none
 | .build T parts=>match jP P T,zeroOf P T with
   |some pl,some z=>match nU (fun i=>pl[i]?) z (parts.toList.map fun(i,x)=>(i,ev x))with
    |some cells=>some (.agg cells,h)
    |Option.none=>Option.none
   |_,_=>Option.none
 | .buildSlice T len parts=>match fV P T with
   |some e=>match zeroOf P e with
    |some z=>if lP P e=some z.length∧0<z.length∧len*z.length≤65536 then
     (if len=0∧parts.toList=[]then some (.e0,h)else match nU (fun i=>some (i*z.length,z.length)) (List.replicate len z).flatten (parts.toList.map fun(i,x)=>(i,ev x))with
      |some cells=>some (.hs h.length 0 len false,h++[.arr false z.length cells])
      |Option.none=>Option.none)else Option.none
    |Option.none=>Option.none
   |Option.none=>Option.none
 | .load T a=>match zX P T h (ev a)with
   |some v=>some (v,h)
   |Option.none=>Option.none
 | .store T a x=>match uV P h T (ev a) (ev x)with
   |some h'=>some (.u,h')
   |Option.none=>Option.none
 | .nilCheck x=>match ev x with
   | .ptr id off=>match h[id]? with|some (.box ..)|some (.arr ..)|some (.held false _)=>some (.ptr id off,h)|_=>Option.none
   | .box cells off=>some (.box cells off,h)
   | .fn f a b=>some (.fn f a b,h)
   |_=>Option.none
 | .binOp op T x y _=>match bIf P op T (ev x) (ev y)with
   |some v=>some (v,h)
   |Option.none=>Option.none
 | .unOp op _ x=>match aUn op (ev x)with
   |some v=>some (v,h)
   |Option.none=>Option.none
 | .convert s d x=>match aKh P s d (ev x)with
   |some v=>some (v,h)
   |Option.none=>Option.none
 | .makeFunc (.func f) first capt=>some (.fn f (first.toList.map ev) (capt.toList.map ev),h)
 | .makeMap T Option.none=>some (.mp h.length,h++[.map false [] []])
 | .makeSlice T l c=>nH P h T (ev l) (ev c)
 | .slice T x l hi m=>match sY P h T (ev x) (l.map ev) (hi.map ev) (m.map ev)with
   |some v=>some (v,h)
   |Option.none=>Option.none
 | .fieldAddr S x f=>match lV P S f with
   |some (fo,ft)=>match lP P ft with
    |some (_+1)=>match ev x with
     | .ptr id off=>match h[id]? with|some (.box ..)|some (.arr ..)|some (.held false _)=>some (.ptr id (off+fo),h)|_=>Option.none
     | .box cells off=>some (.box cells (off+fo),h)
     |_=>Option.none
    |_=>Option.none
   |Option.none=>Option.none
 | .field T x f=>match ev x,lV P T f with
   | .agg cs,some (fo,ft)=>match apart P ft cs fo with
     |some v=>some (v,h)
     |Option.none=>Option.none
   |_,_=>Option.none
 | .indexAddr T x i=>match kE P h T (ev x) (ev i)with
   |some v=>some (v,h)
   |Option.none=>Option.none
 | .index T x i=>match R9 P T (ev x) (ev i)with
   |some v=>some (v,h)
   |Option.none=>Option.none
 | .lookup T m k ok=>match pO P h T (ev m) (ev k) ok with
   |some v=>some (v,h)
   |Option.none=>Option.none
 | .mapUpdate T m k x=>match gP P h T (ev m) (ev k) (ev x)with
   |some h'=>some (.u,h')
   |Option.none=>Option.none
 | .extract t i=>match ev t with
   | .tup vs=>match vs[i]? with
     |some v=>some (v,h)
     |Option.none=>Option.none
   |_=>Option.none
 | .makeInterface T x=>match P.underlying T with
   |Option.none|some (.interface _)=>Option.none
   |some _=>match toV (ev x)with
    |some v=>some (.p (.iface T v),h)
    |Option.none=>Option.none
 | .call c=>match c.callee with
   | .builtin b=>jZ P h b c.argTypes (c.args.toList.map ev)
   |_=>Option.none
 |_=>Option.none
theorem bAj{P:Program}{G:Glob}{env:List AV}{h:List AObj}(o:Op):cFv P (aev G env) h o=aop P G env h o:=by
 cases o with
 |makeFunc f a b=>cases f<;>rfl
 |makeMap T r=>cases r<;>rfl
 |_=>rfl
section
variable (P:Program) (ev:Operand→AV) (cx:aKp)
def aOv(dr:Bool)(h:List AObj)(c:Call):Ends:=
 match c.callee with
 | .builtin .append=>match c.argTypes.toList,c.args.toList.map ev with
   | [T,U],[s,x]=>if T=U then(if tU h x then bJf (iE P h T s x)else bJf (iE P (freeze (eH dep h x) h) T s (gZ dep h x)))else(match P.underlying U with|some (.int _)=>bJf (sX P h T s x)|_=>none)
   |_,_=>none
 | .builtin b=>bJf (jZ P h b c.argTypes (c.args.toList.map ev))
 | .value fx=>match ev fx with
   | .fn f first capt=>cx dr f (first++c.args.toList.map ev++capt) h
   |_=>none
 | .invoke .. => none
def zU(dr:Bool)(o:Op)(h:List AObj):Ends:=
 match o with
 | .call c=>aOv P ev cx dr h c
 | .mapUpdate T m k x=>if pers (ev x)then(match gP P h T (ev m) (ev k) (ev x)with
    |some h'=>some [(.u,h')]
    |Option.none=>none)
   else(match gP P (freeze (eH dep h (ev x)) h) T (ev m) (ev k) (gZ dep h (ev x))with
    |some h'=>some [(.u,h')]
    |Option.none=>none)
 | .range T x=>if dr then none else match P.underlying T,gZ dep h (ev x)with
   |some (.map _ _),.mapv ks vs=>some [(.ptr (freeze (eH dep h (ev x)) h).length 0,freeze (eH dep h (ev x)) h++[.mit none ks vs])]
   |some .string,.s l=>some [(.ptr (freeze (eH dep h (ev x)) h).length 0,freeze (eH dep h (ev x)) h++[.sit l 0])]
   |_,_=>none
 | .next x false=>if dr then none else match ev x with
   | .ptr id 0=>match h[id]? with
     |some (.mit _ [] vs)=>some [(.tup [.b false],h)]
     |some (.mit _ ks vs)=>some (((List.range ks.length).filterMap fun j=>match ks[j]?,vs[j]? with
      |some k,some v=>some (.tup [.b true,k,v],h.set id (.mit (some (k,v)) (ks.eraseIdx j) (vs.eraseIdx j)))
      |_,_=>none))
     |_=>none
   |_=>none
 | .next x true=>if dr then none else match ev x with
   | .ptr id 0=>match h[id]? with
     |some (.sit l pos)=>match l[pos]? with
      |none=>some [(.tup [.b false],h)]
      |some c=>if c.toNat<128 then some [(.tup [.b true,.i .i64 pos,.i .i32 c.toNat],h.set id (.sit l (pos+1)))]else none
     |_=>none
   |_=>none
 | .entry x=>if dr then none else match ev x with
   | .ptr id 0=>match h[id]? with
     |some (.mit (some (k,v)) _ _)=>some [(.tup [k,v],h)]
     |_=>none
   |_=>none
 | .makeMap T Option.none=>if dr then some [(.mapv [] [],h)]else some [(.mp h.length,h++[.map false [] []])]
 | .buildSlice T len ps=>bJf (if(dr&&aQy ps.toList)=true then(bBl P T len ps).map fun v=>(v,h)else cFv P ev h (.buildSlice T len ps))
 |o=>bJf (cFv P ev h o)
def cGs(T:TypeId)(v:AV)(h:List AObj):Ends:=
 match P.underlying T with
 |some (.slice _)=>(match v with
  | .e0=>some [(.b true,h),(.b false,h)]
  | .sl _ n=>if n=0 then some [(.b true,h),(.b false,h)]else some [(.b false,h)]
  |_=>none)
 |_=>none
def cCq(dr:Option DR)(op:Op)(h:List AObj):Ends:=
 match fU op,dr with
 |some (T,x),Option.none=>cGs P T (ev x) h
 |_,_=>match rJ P ev op with
  |some (sz,cells)=>(match dr with
   |Option.none=>some [(.ptr h.length 0,h++[.arr false sz cells])]
   |some _=>zU P ev cx dr.isSome op h)
  |Option.none=>zU P ev cx dr.isSome op h
end
mutual
def Z7:AV→AV→Bool
 | .b x,.b y=>x == y
 | .i k n,.i l m=>decide (k=l)&&decide (n=m)
 | .s a,.s b=>decide (a=b)
 | .e0,.e0=>true
 | .sl a n,.sl b m=>avEqL a b&&decide (n=m)
 | .agg a,.agg b=>avEqL a b
 | .tup a,.tup b=>avEqL a b
 | .box a n,.box b m=>avEqL a b&&decide (n=m)
 | .mapv a b,.mapv c d=>avEqL a c&&avEqL b d
 | .fn f a b,.fn g c d=>decide (f=g)&&avEqL a c&&avEqL b d
 | .own s a n,.own z b m=>decide (s=z)&&avEqL a b&&decide (n=m)
 | .u,.u=>true
 | .hs a b c d,.hs a' b' c' d'=>decide (a=a')&&decide (b=b')&&decide (c=c')&&(d == d')
 | .ptr a b,.ptr a' b'=>decide (a=a')&&decide (b=b')
 | .mp a,.mp a'=>decide (a=a')
 |_,_=>false
def avEqL:List AV→List AV→Bool
 | [],[]=>true
 |x::xs,y::ys=>Z7 x y&&avEqL xs ys
 |_,_=>false
end
mutual
theorem aJz:∀(x y:AV),Z7 x y=true→x=y
 | .b x,.b y,h=>by simp[Z7]at h;rw[h]
 | .i k n,.i l m,h=>by simp[Z7]at h;rw[h.1,h.2]
 | .s a,.s b,h=>by simp[Z7]at h;rw[h]
 | .e0,.e0,_=>rfl
 | .sl a n,.sl b m,h=>by simp[Z7]at h;rw[avEqL_ok a b h.1,h.2]
 | .agg a,.agg b,h=>by rw[Z7]at h;rw[avEqL_ok a b h]
 | .tup a,.tup b,h=>by rw[Z7]at h;rw[avEqL_ok a b h]
 | .box a n,.box b m,h=>by simp[Z7]at h;rw[avEqL_ok a b h.1,h.2]
 | .mapv a b,.mapv c d,h=>by simp[Z7]at h;rw[avEqL_ok a c h.1,avEqL_ok b d h.2]
 | .fn f a b,.fn g c d,h=>by simp[Z7]at h;rw[h.1.1,avEqL_ok a c h.1.2,avEqL_ok b d h.2]
 | .own s a n,.own z b m,h=>by simp[Z7]at h;rw[h.1.1,avEqL_ok a b h.1.2,h.2]
 | .own _ _ _,.u,h=>by simp[Z7]at h
 | .u,y,h=>by cases y<;>first|rfl|simp[Z7]at h
 | .p _,y,h=>by cases y<;>simp[Z7]at h
 | .hs _ _ _ _,y,h=>by
   cases y<;>simp[Z7]at h;rw[h.1.1.1,h.1.1.2,h.1.2,h.2]
 | .ptr _ _,y,h=>by
   cases y<;>simp[Z7]at h;rw[h.1,h.2]
 | .mp _,y,h=>by
   cases y<;>simp[Z7]at h;rw[h]
theorem avEqL_ok:∀(xs ys:List AV),avEqL xs ys=true→xs=ys
 | [],[],_=>rfl
 |x::xs,y::ys,h=>by
  rw[avEqL,aA]at h;rw[aJz x y h.1,avEqL_ok xs ys h.2]
 | [],_::_,h=>by simp[avEqL]at h
 |_::_,[],h=>by simp[avEqL]at h
end
def bOk:AObj→AObj→Bool
 | .dead,.dead=>true
 | .box _ a,.box _ b=>avEqL a b
 | .arr _ s a,.arr _ t b=>decide (s=t)&&avEqL a b
 | .map _ a b,.map _ c d=>avEqL a c&&avEqL b d
 |_,_=>false
theorem bEc{o o':AObj}(h:bOk o o'=true):o'.strip=o.strip:=by
 cases o<;>cases o'<;>simp[bOk]at h
 ·rfl
 ·rw[avEqL_ok _ _ h];rfl
 ·rw[h.1,avEqL_ok _ _ h.2];rfl
 ·rw[avEqL_ok _ _ h.1,avEqL_ok _ _ h.2];rfl
def aQl(N:DR):Nat→List AObj→List AObj→Bool
 |_,[],_=>true
 |i,o::l,o'::l'=>(!N.oldB i||bOk o o')&&aQl N (i+1) l l'
 |i,o::l,[] => !N.oldB i&&aQl N (i+1) l []
theorem aMe{M:DR}{id:Nat}(h:M.old id):M.oldB id=true:=by
 unfold DR.oldB;unfold DR.old at h;split at h
 ·rename_i e;rw[e,aA,aOx];exact⟨h,rfl⟩
 ·rename_i x l e;rw[aA,aOx];refine⟨h.1,?_⟩;rw[e,eF,List.contains_eq_mem,decide_eq_false_iff_not];exact h.2
theorem aAz{N:DR}:∀{h h':List AObj} {i:Nat},aQl N i h h'=true→∀(k:Nat) (o:AObj),N.old (i+k)→h[k]? = some o→∃o',h'[k]? = some o'∧o'.strip=o.strip
 | [],_,_,_,k,o,_,hk=>by simp at hk
 |o0::l,o1::l',i,e,k,o,hn,hk=>by
  rw[aQl,aA]at e;cases k with
  |zero=>
   simp only[bT,aB]at hk;subst hk;have e1:=e.1;rw[aMe (by simpa using hn)]at e1;exact⟨o1,rfl,bEc (by simpa using e1)⟩
  |succ k=>
   have:=aAz e.2 k o (by rw[show i+1+k=i+(k+1) by omega];exact hn) (by simpa using hk);simpa using this
 |o0::l,[],i,e,k,o,hn,hk=>by
  rw[aQl,aA]at e;cases k with
  |zero=>
   have e1:=e.1;rw[aMe (by simpa using hn)]at e1;simp at e1
  |succ k=>
   obtain⟨o',h1,_⟩:=aAz e.2 k o (by rw[show i+1+k=i+(k+1) by omega];exact hn) (by simpa using hk);simp at h1
def bLm(ev:Operand→AV)(cx:aKp)(N:DR)(c:Call)(h:List AObj):Ends:=
 match c.callee with
 | .value fx=>match ev fx with
   | .fn f first capt=>match cx false f (first++c.args.toList.map ev++capt) h with
     |some [(x,h')]=>if aQl N 0 h (freeze (eH dep h' x) h')=true then some [(gZ dep h' x,freeze (eH dep h' x) h')]else none
     |_=>none
   |_=>none
 |_=>none
def bCw(P:Program)(ev:Operand→AV)(cx:aKp)(dr:Option DR)(ck:Bool)(op:Op)(h:List AObj):Ends:=
 match vOp dr ck op with
 |some (T,len,ps)=>bJf ((aRl P ev T len ps).map fun v=>(v,h))
 |Option.none=>match zOp dr ck op with
  |some (c,N)=>bLm ev cx N c h
  |Option.none=>cCq P ev cx dr op h
def bTq:Op→Bool
 | .move _| .assign _| .pick .. | .load .. | .nilCheck _| .binOp .. | .unOp .. | .convert .. | .slice .. | .fieldAddr .. | .field .. | .indexAddr .. | .index .. | .lookup .. | .extract .. | .build .. => false
 |_=>true
section
variable (P:Program) (G:Glob) (cx:aKp) (n:Nat)
def bNo{α:Type}(e:ET)(dst:Option Nat)(y:AV)(k:ET→Option α):Option α:=
 match dst with
 |none=>k e
 |some d=>match Nat.blt d n with
  |true=>aXb y fun y=>e.setK d y k
  |false=>none
def aVi(dr:Option DR):List gA→ET→List AObj→Option (List (ET×List AObj))
 | [],e,h=>some [(e,h)]
 |o :: os,e,h=>
  let go:Option (List (ET×List AObj)):=match ckB (evT G n e) dr o.ck o.op with
   |true=>aBu (bCw P (evT G n e) cx dr o.ck o.op h) fun p=>bNo n e o.dst p.1 fun e'=>match bTq o.op with
    |true=>aFl p.2 fun h'=>aVi dr os e' h'
    |false=>aVi dr os e' p.2
   |false=>none
  match o.gd with
  |Option.none=>go
  |some (t,want)=>match T7 (evT G n e (.tmp t)) want with
   | .b true=>go
   | .b false=>bNo n e o.dst (.tup []) fun e'=>aVi dr os e' h
   |_=>none
abbrev bIj:=Exit×ET×List AObj
def aWd(B:ET→List AObj→Option (List bIj)):Nat→ET→List AObj→Option (List bIj)
 |0,_,_=>none
 |n+1,env,h=>aBu (B env h) fun p=>match p.1 with
  | .normal=>aWd B n p.2.1 p.2.2
  |e=>some [p]
def tJ(m:Nat):kN→ET→List AObj→Option (List bIj)
 | .skip,env,h=>some [(.normal,env,h)]
 | .region ops,env,h=>aBu (aVi P G cx n Option.none ops env h) fun p=>some [(.normal,p)]
 | .draw th ops,env,h=>aBu (aVi P G cx n (some (cHx th h.length)) ops env h) fun p=>some [(.normal,p)]
 | .seq a b,env,h=>aBu (tJ m a env h) fun p=>match p.1 with
   | .normal=>tJ m b p.2.1 p.2.2
   |e=>some [p]
 | .cond c a b,env,h=>match evT G n env c with
   | .b true=>tJ m a env h
   | .b false=>tJ m b env h
   |_=>none
 | .block id c,env,h=>aBu (tJ m c env h) fun p=>match p.1 with
   | .exit i=>if i=id then some [(.normal,p.2)]else some [p]
   |e=>some [p]
 | .loop c,env,h=>aWd (tJ m c) m env h
 | .exit id,env,h=>some [(.exit id,env,h)]
 | .ret,env,h=>some [(.ret,env,h)]
 | .raw _,_,_=>none
end
def S5(P:Program)(G:Glob)(cx:aKp):Prop:=
 ∀dr f A h l,cx dr f A h=some l→∀K:AV→List AObj→Prop,(∀p∈l,K p.1 p.2)→G5 P G (fun _ _=>False) dr f A h K
section
variable {P:Program} {G:Glob} {cx:aKp}
theorem bEa{α β:Type}{K:α→β→Prop}{a:α}{b:β}(k:∀p ∈ [(a,b)],K p.1 p.2):K a b:=k (a,b) (dL _)
theorem aNz(hc:S5 P G cx){dr:Bool}{o:Op}{env:List AV}{h:List AObj}{l:List (AV×List AObj)}{K:AV→List AObj→Prop}(e:zU P (aev G env) cx dr o h=some l)(k:∀p∈l,K p.1 p.2):fY P G dr o K env h:=by
 cases o with
 |call c=>
  obtain⟨callee,args,ats⟩:=c;cases callee with
  |value f=>
   simp only[zU,aOv]at e;simp only[fY,nR];split at e
   ·rename_i hh;rw[hh];exact hc _ _ _ _ _ e K k
   ·cases e
  |invoke a b=>cases e
  |builtin b=>
   cases b with
   |append=>
    simp only[zU,aOv]at e;simp only[fY,nR];split at e
    ·rename_i T U s x h1 h2;rw[h1,h2];by_cases hT:T=U
     ·simp only[hT,if_true]at e ⊢;split at e
      ·rename_i hw;rw[if_pos hw];exact xF e k
      ·rename_i hw;rw[if_neg hw];exact xF e k
     ·simp only[hT,if_false]at e ⊢;split at e
      ·rename_i hu;rw[hu];exact xF e k
      ·cases e
    ·cases e
   |_=>
    simp only[zU,aOv]at e;simp only[fY,nR];exact xF e k
 |mapUpdate T m ky x=>
  simp only[zU]at e;simp only[fY];split at e
  ·rename_i hp;rw[if_pos hp];split at e
   ·rename_i hh;rw[hh];cases e;exact bEa (K:=K) k
   ·cases e
  ·rename_i hp;rw[if_neg hp];split at e
   ·rename_i hh;rw[hh];cases e;exact bEa (K:=K) k
   ·cases e
 |range T x=>
  simp only[zU]at e;simp only[fY];split at e
  ·cases e
  rename_i hd;rw[if_neg hd];split at e
  ·rename_i h1 h2;rw[h1,h2];cases e;exact bEa (K:=K) k
  ·rename_i h1 h2;rw[h1,h2];cases e;exact bEa (K:=K) k
  ·cases e
 |next x b=>
  cases b with
  |false=>
   simp only[zU]at e;simp only[fY];split at e
   ·cases e
   rename_i hd;rw[if_neg hd];split at e
   ·rename_i id h1;rw[h1];try dsimp only
    split at e
    ·rename_i c vs h2;simp only[h2];cases e;refine⟨fun _=>bEa (K:=K) k,fun j a b ha=>by simp at ha⟩
    ·rename_i c ks vs hne h2;simp only[h2];cases e;refine⟨fun h0=>(hne h0).elim,fun j a b ha hb=>k (_,_) ?_⟩;rw[List.mem_filterMap];refine⟨j,?_,by rw[ha,hb]⟩;rw[fE];exact(gO.1 ha).1
    ·cases e
   ·cases e
  |true=>
   simp only[zU]at e;simp only[fY];split at e
   ·cases e
   rename_i hd;rw[if_neg hd];split at e
   ·rename_i id h1;rw[h1];try dsimp only
    split at e
    ·rename_i s pos h2;simp only[h2];split at e
     ·rename_i h3;cases e;refine⟨fun _=>bEa (K:=K) k,fun c hc=>?_⟩;rw[h3]at hc;cases hc
     ·rename_i c h3;split at e
      ·rename_i hlt;cases e;refine⟨fun hle=>?_,fun c' hc'=>?_⟩
       ·have:=(gO.1 h3).1;omega
       ·rw[h3]at hc';cases hc';exact⟨fun _=>bEa (K:=K) k,fun rn m h4=>by omega⟩
      ·cases e
    ·cases e
   ·cases e
 |entry x=>
  simp only[zU]at e;simp only[fY];split at e
  ·cases e
  rename_i hd;rw[if_neg hd];split at e
  ·rename_i id h1;rw[h1];try dsimp only
   split at e
   ·rename_i h2;simp only[h2];cases e;exact bEa (K:=K) k
   ·cases e
  ·cases e
 |makeMap T r=>
  cases r with
  |none=>
   simp only[zU]at e;simp only[fY];cases dr<;>cases e<;>exact bEa (K:=K) k
  |some _=>
   simp only[zU,bAj]at e;simp only[fY];exact xF e k
 |_=>
  simp only[zU,bAj]at e;simp only[fY];first|exact xF e k|cases e
theorem bMt(hc:S5 P G cx){dr:Option DR}{o:Op}{env:List AV}{h:List AObj}{l:List (AV×List AObj)}{K:AV→List AObj→Prop}(e:cCq P (aev G env) cx dr o h=some l)(k:∀p∈l,K p.1 p.2):pS P G dr o K env h:=by
 unfold cCq at e;unfold pS;split at e
 ·rename_i T x h1;rw[h1];dsimp only;unfold cGs at e;unfold bJi;split at e
  ·rename_i h2;rw[h2];try dsimp only
   split at e
   ·rename_i hv;rw[hv];cases e;exact⟨k (.b true,h) (by simp),k (.b false,h) (by simp)⟩
   ·rename_i hv;rw[hv];split at e
    ·cases e;exact⟨fun _=>k (.b true,h) (by simp),k (.b false,h) (by simp)⟩
    ·rename_i hn;cases e;exact⟨fun h0=>absurd h0 hn,k (.b false,h) (by simp)⟩
   ·cases e
  ·cases e
 ·rename_i hne;split
  ·rename_i T x h1;exact absurd rfl (hne T x h1)
  ·split at e
   ·rename_i ha;rw[ha];split at e
    ·cases e;exact k (_,_) (aV.2 rfl)
    ·exact aNz hc e k
   ·rename_i ha;rw[ha];exact aNz hc e k
theorem aHa{f:FuncId}{A:List AV}{h h':List AObj}{x:AV}(s:ACalls P G f A h (fun x1 h1=>x1=x∧h1=h')):ACalls P G f A h (fun x1 h1=>x1=gZ dep h' x∧h1=freeze (eH dep h' x) h'):=by
 refine⟨s.1,fun X w vs g hl hr=>(s.2 X w vs g hl hr).mono ?_⟩;rintro e w' ⟨v,r,h1,X',he,⟨rfl,rfl⟩,g',rv,t⟩;obtain⟨X2,g2,r2,t2⟩:=pH g' rv;exact⟨v,_,_,X2,he,⟨rfl,rfl⟩,g2,r2,t.trans t2⟩
theorem bBn(hc:S5 P G cx){N:DR}{c:Call}{env:List AV}{h:List AObj}{l:List (AV×List AObj)}{K:AV→List AObj→Prop}(e:bLm (aev G env) cx N c h=some l)(k:∀p∈l,K p.1 p.2):bSt P G N c K env h:=by
 unfold bLm at e;split at e
 ·rename_i fx hfx;split at e
  ·rename_i f first capt hf
   split at e
   ·rename_i x h' hcx;split at e
    ·rename_i hg;cases e;refine⟨_,_,?_,fun id o hn ho=>aAz hg id o (by simpa using hn) ho,k _ (dL _)⟩;simp only[fY,nR,hfx,hf];exact .inl (aHa ((hc false _ _ _ _ hcx (fun x1 h1=>x1=x∧h1=h') (by intro p hp;rw[aV]at hp;subst hp;exact⟨rfl,rfl⟩)).elim id rI.none))
    ·cases e
   ·cases e
  ·cases e
 ·cases e
theorem bCv(hc:S5 P G cx){dr:Option DR}{ck:Bool}{o:Op}{env:List AV}{h:List AObj}{l:List (AV×List AObj)}{K:AV→List AObj→Prop}(e:bCw P (aev G env) cx dr ck o h=some l)(k:∀p∈l,K p.1 p.2):aPp P G dr ck o K env h:=by
 unfold bCw at e;unfold aPp;split at e
 ·rename_i T len ps hv;rw[hv];exact xF e k
 ·rename_i hv;rw[hv];split at e
  ·rename_i c N hz;rw[hz];exact bBn hc e k
  ·rename_i hz;rw[hz];exact bMt hc e k
theorem aUl{n k:Nat}{α:Type}{e:ET}{env:List AV}(r:aCk n k e env){dst:Option Nat}{y:AV}{f:ET→Option α}{x:α}(h:bNo n e dst y f=some x):∃e',aCk n k e' (iV env dst y)∧f e'=some x:=by
 unfold bNo at h;split at h
 ·exact⟨e,r,h⟩
 ·rename_i d;split at h
  ·rename_i hb;rw[aXa,ET.setK_eq]at h;exact⟨_,r.put (by rwa[aOx]at hb) y,h⟩
  ·cases h
theorem aAr(hc:S5 P G cx){n k:Nat}{dr:Option DR}:∀{os:List gA} {e:ET} {env:List AV} {h:List AObj} {l:List (ET×List AObj)} {K:List AV→List AObj→Prop},aCk n k e env→aVi P G cx n dr os e h=some l→(∀p∈l,∀env',aCk n k p.1 env'→K env' p.2)→dN P G dr os K env h
 | [],e,env,h,l,K,r,x,kk=>by
   rw[aVi]at x;cases x;rw[dN];exact kk (e,h) (dL _) env r
 |o :: os,e,env,h,l,K,r,x,kk=>by
  rw[aVi]at x;rw[r.ev G]at x;have step:∀{l},(match ckB (aev G env) dr o.ck o.op with
   |true=>aBu (bCw P (aev G env) cx dr o.ck o.op h) fun p=>bNo n e o.dst p.1 fun e'=>match bTq o.op with
    |true=>aFl p.2 fun h'=>aVi P G cx n dr os e' h'
    |false=>aVi P G cx n dr os e' p.2
   |false=>none)=some l→(∀p∈l,∀env',aCk n k p.1 env'→K env' p.2)→aRb G dr o.ck o.op env∧aPp P G dr o.ck o.op (fun r h'=>dN P G dr os K (iV env o.dst r) h') env h:=by
   intro l x kk
   split at x
   ·rename_i hck;refine⟨cAc hck,?_⟩;obtain⟨m,h1,h2⟩:=wD x;refine bCv hc h1 fun p hp=>?_;obtain⟨a,ha,hs⟩:=h2 p hp;obtain⟨e',r',ha⟩:=aUl r ha;have ha:aVi P G cx n dr os e' p.2=some a:=by
     split at ha
     ·rwa[aFk]at ha
     ·exact ha
    exact aAr hc r' ha fun q hq=>kk q (hs q hq)
   ·cases x
  rw[dN];try dsimp only at x
  split at x
  ·rename_i hg;rw[hg];exact step x kk
  ·rename_i t want hg;rw[hg];dsimp only;split at x
   ·rename_i hv;have hv:T7 (env.getD t .u) want=.b true:=hv;rw[hv];exact⟨fun _=>step x kk,fun h=>(by cases h)⟩
   ·rename_i hv;have hv:T7 (env.getD t .u) want=.b false:=hv;obtain⟨e',r',ha⟩:=aUl r x;rw[hv];exact⟨fun h=>(by cases h),fun _=>aAr hc r' ha kk⟩
   ·cases x
def cBy(n k:Nat)(l:List bIj)(Q:Exit→List AV→List AObj→Prop):Prop:=∀p∈l,∀env,aCk n k p.2.1 env→Q p.1 env p.2.2
theorem bEu{n k:Nat}{c:(Exit→List AV→List AObj→Prop)→List AV→List AObj→Prop}{B:ET→List AObj→Option (List bIj)}(hB:∀e env h l Q,aCk n k e env→B e h=some l→cBy n k l Q→c Q env h){m:Nat}{e:ET}{env:List AV}{h:List AObj}{l:List bIj}{Q:Exit→List AV→List AObj→Prop}(r:aCk n k e env)(x:aWd B m e h=some l)(kk:cBy n k l Q):Loop c Q env h:=by
 refine⟨Nat,fun s env h=>∃e l,aCk n k e env∧aWd B s e h=some l∧cBy n k l Q,id,m,⟨e,l,r,x,kk⟩,?_⟩;rintro s env h ⟨e,l,r,x,kk⟩;cases s with
 |zero=>cases x
 |succ s=>
  rw[aWd]at x;obtain⟨m,h1,h2⟩:=wD x;refine hB _ _ _ _ _ r h1 fun p hp env' r'=>?_;obtain⟨a,ha,hs⟩:=h2 p hp;obtain⟨y,e',h'⟩:=p;dsimp only at ha r';cases y with
  |normal=>exact⟨s,⟨e',a,r',ha,fun q hq=>kk q (hs q hq)⟩,Nat.lt_succ_self s⟩
  |_=>cases ha;exact kk _ (hs _ (dL _)) env' r'
theorem sI(hc:S5 P G cx){n k:Nat}(m:Nat):∀(c:kN) (e:ET) (env:List AV) (h:List AObj) (l:List bIj) (Q:Exit→List AV→List AObj→Prop),aCk n k e env→tJ P G cx n m c e h=some l→cBy n k l Q→awx P G c Q env h
 | .skip,e,env,h,l,Q,r,x,kk=>by rw[tJ]at x;cases x;exact kk _ (dL _) env r
 | .region ops,e,env,h,l,Q,r,x,kk=>by
   rw[tJ]at x;obtain⟨m,h1,h2⟩:=wD x;rw[awx];refine aAr hc r h1 fun p hp env' r'=>?_;obtain⟨a,ha,hs⟩:=h2 p hp;cases ha;exact kk _ (hs _ (dL _)) env' r'
 | .raw c,e,env,h,l,Q,r,x,kk=>by rw[tJ]at x;cases x
 | .draw th ops,e,env,h,l,Q,r,x,kk=>by
   rw[tJ]at x;obtain⟨m,h1,h2⟩:=wD x;rw[awx];refine aAr hc r h1 fun p hp env' r'=>?_;obtain⟨a,ha,hs⟩:=h2 p hp;cases ha;exact kk _ (hs _ (dL _)) env' r'
 | .seq a b,e,env,h,l,Q,r,x,kk=>by
   rw[tJ]at x;obtain⟨m',h1,h2⟩:=wD x;rw[awx];refine sI hc m a _ _ _ _ _ r h1 fun p hp env' r'=>?_;obtain⟨q,hq,hs⟩:=h2 p hp;obtain⟨y,e',h'⟩:=p;dsimp only at hq r';cases y with
   |normal=>exact sI hc m b _ _ _ _ _ r' hq fun z hz=>kk z (hs z hz)
   |_=>cases hq;exact kk _ (hs _ (dL _)) env' r'
 | .cond c a b,e,env,h,l,Q,r,x,kk=>by
   rw[tJ,r.ev G]at x;rw[awx];split at x
   ·rename_i hv;rw[hv];exact⟨fun _=>sI hc m a _ _ _ _ _ r x kk,fun h=>(by cases h)⟩
   ·rename_i hv;rw[hv];exact⟨fun h=>(by cases h),fun _=>sI hc m b _ _ _ _ _ r x kk⟩
   ·cases x
 | .block id c,e,env,h,l,Q,r,x,kk=>by
   rw[tJ]at x;obtain⟨m',h1,h2⟩:=wD x;rw[awx];refine sI hc m c _ _ _ _ _ r h1 fun p hp env' r'=>?_;obtain⟨q,hq,hs⟩:=h2 p hp;obtain⟨y,e',h'⟩:=p;dsimp only at hq r';cases y with
   |exit i=>
    simp only[F0];simp only at hq;split at hq
    ·rename_i hi;rw[if_pos hi];cases hq;exact kk _ (hs _ (dL _)) env' r'
    ·rename_i hi;rw[if_neg hi];cases hq;exact kk _ (hs _ (dL _)) env' r'
   |_=>cases hq;exact kk _ (hs _ (dL _)) env' r'
 | .loop c,e,env,h,l,Q,r,x,kk=>by
   rw[tJ]at x;rw[awx];exact bEu (fun e env h l Q r x kk=>sI hc m c e env h l Q r x kk) r x kk
 | .exit id,e,env,h,l,Q,r,x,kk=>by rw[tJ]at x;cases x;exact kk _ (dL _) env r
 | .ret,e,env,h,l,Q,r,x,kk=>by rw[tJ]at x;cases x;exact kk _ (dL _) env r
end
mutual
def Y5(h:List AObj):AV→AV
 | .agg xs=>.agg (finRL h xs)
 | .tup xs=>.tup (finRL h xs)
 |x=>gZ dep h x
def finRL(h:List AObj):List AV→List AV
 | []=>[]
 |x::xs=>Y5 h x::finRL h xs
end
theorem pY{h:List AObj}{x:AV}{sz n:Nat}{cells:List AV}:gZ dep h x ≠ .own sz cells n:=by
 intro e;rw[gE]at e;split at e
 ·rename_i hp;rw[e]at hp;simp[pers]at hp
 ·unfold rQ at e;dsimp only at e;split at e;all_goals try(split at e)
  all_goals try(split at e)
  all_goals cases e
mutual
theorem C2(h:List AObj):∀(x:AV),oM h x (Y5 h x)∧dJ x (Y5 h x)=[]
 | .agg xs=>by
   have:=finRL_ok h xs;rw[Y5];exact⟨this.1,this.2⟩
 | .tup xs=>by
   have:=finRL_ok h xs;rw[Y5];exact⟨this.1,this.2⟩
 | .u=>⟨rfl,rfl⟩
 | .b _=>⟨rfl,rfl⟩
 | .i _ _=>⟨rfl,rfl⟩
 | .s _=>⟨rfl,rfl⟩
 | .p v=>⟨rfl,rfl⟩
 | .e0=>⟨rfl,rfl⟩
 | .sl cells n=>by
   rw[Y5];all_goals try(intro xs e;cases e;done)
   cases hs:gZ dep h (.sl cells n)with
   |own a b c=>exact absurd hs pY
   |_=>exact⟨hs.symm,rfl⟩
 | .own a b c=>by
   rw[Y5];all_goals try(intro xs e;cases e;done)
   cases hs:gZ dep h (.own a b c)with
   |own a b c=>exact absurd hs pY
   |_=>exact⟨hs.symm,rfl⟩
 | .hs a b c d=>by
   rw[Y5];all_goals try(intro xs e;cases e;done)
   cases hs:gZ dep h (.hs a b c d)with
   |own a b c=>exact absurd hs pY
   |_=>exact⟨hs.symm,rfl⟩
 | .ptr a b=>by
   rw[Y5];all_goals try(intro xs e;cases e;done)
   cases hs:gZ dep h (.ptr a b)with
   |own a b c=>exact absurd hs pY
   |_=>exact⟨hs.symm,rfl⟩
 | .box a b=>by
   rw[Y5];all_goals try(intro xs e;cases e;done)
   cases hs:gZ dep h (.box a b)with
   |own a b c=>exact absurd hs pY
   |_=>exact⟨hs.symm,rfl⟩
 | .mp a=>by
   rw[Y5];all_goals try(intro xs e;cases e;done)
   cases hs:gZ dep h (.mp a)with
   |own a b c=>exact absurd hs pY
   |_=>exact⟨hs.symm,rfl⟩
 | .mapv a b=>by
   rw[Y5];all_goals try(intro xs e;cases e;done)
   cases hs:gZ dep h (.mapv a b)with
   |own a b c=>exact absurd hs pY
   |_=>exact⟨hs.symm,rfl⟩
 | .fn a b c=>by
   rw[Y5];all_goals try(intro xs e;cases e;done)
   cases hs:gZ dep h (.fn a b c)with
   |own a b c=>exact absurd hs pY
   |_=>exact⟨hs.symm,rfl⟩
theorem finRL_ok(h:List AObj):∀(xs:List AV),finOKL h xs (finRL h xs)∧finIdsL xs (finRL h xs)=[]
 | []=>⟨trivial,rfl⟩
 |x::xs=>by
  have h1:=C2 h x;have h2:=finRL_ok h xs;rw[finRL];exact⟨⟨h1.1,h2.1⟩,by rw[finIdsL,h1.2,h2.2];rfl⟩
end
theorem aNd{h:List AObj}{x:AV}:Fin h x (Y5 h x):=by
 have e:=C2 h x;exact .inr ⟨e.1,by rw[e.2];exact fI,by rw[e.2];simp⟩
def cBp(P:Program)(h:List AObj)(T:Option TypeId):AV→AV
 | .e0=>match (T.bind (fV P)).bind (lP P)with
   |some sz=>.own sz [] 0
   |none=>Y5 h .e0
 | .hs id off n false=>match h[id]? with
   |some (.arr false sz cs)=>if off+n*sz≤cs.length∧persL ((cs.drop off).take (n*sz))=true then .own sz ((cs.drop off).take (n*sz)) n else Y5 h (.hs id off n false)
   |_=>Y5 h (.hs id off n false)
 |x=>Y5 h x
def bFw(P:Program)(h:List AObj):List TypeId→List AV→List AV
 |T::Ts,x::xs=>cBp P h (some T) x::bFw P h Ts xs
 |_,xs=>finRL h xs
def cBo(P:Program)(h:List AObj)(Ts:List TypeId):AV→AV
 | .tup xs=>.tup (bFw P h Ts xs)
 |x=>cBp P h Ts.head? x
theorem aXp(P:Program)(h:List AObj)(T:Option TypeId)(x:AV):oM h x (cBp P h T x):=by
 unfold cBp;split
 ·split
  ·exact⟨rfl,rfl⟩
  ·exact(C2 h _).1
 ·rename_i id off n;split
  ·rename_i sz cs hh;split
   ·rename_i hc;exact⟨rfl,rfl,cs,hh,hc.1,rfl,hc.2⟩
   ·exact(C2 h _).1
  ·exact(C2 h _).1
 ·exact(C2 h _).1
theorem aNg(P:Program)(h:List AObj):∀(Ts:List TypeId) (xs:List AV),finOKL h xs (bFw P h Ts xs)
 |T::Ts,x::xs=>⟨aXp P h _ x,aNg P h Ts xs⟩
 | [],xs=>by rw[bFw];exact(finRL_ok h xs).1;intros;contradiction
 |_::_,[]=>trivial
theorem bPv(P:Program)(h:List AObj)(Ts:List TypeId)(x:AV):oM h x (cBo P h Ts x):=by
 unfold cBo;split
 ·exact aNg P h Ts _
 ·exact aXp P h _ _
def bLf(h:List AObj)(x r:AV):Bool:=decide (dJ x r).Nodup&&(dJ x r).all fun i => !(kH h x r).contains i
def bPw(P:Program)(h:List AObj)(Ts:List TypeId)(x:AV):AV:=if bLf h x (cBo P h Ts x)then cBo P h Ts x else Y5 h x
theorem aNe{P:Program}{h:List AObj}{Ts:List TypeId}{x:AV}:Fin h x (bPw P h Ts x):=by
 unfold bPw;split
 ·rename_i hb;simp only[bLf,aA,decide_eq_true_eq,bF,eF]at hb;refine .inr ⟨bPv P h Ts x,hb.1,fun i hi hc=>?_⟩;have:=hb.2 i hi;rw[← jW,this]at hc;cases hc
 ·exact aNd
section
variable (P:Program) (G:Glob)
structure How where
 heap:Bool:=false
 rx:Bool:=false
 th:Nat→Option TH:=fun _=>none
def Z9(ev:Operand→AV)(h:List AObj):List ResultVar→Option (List AV)
 | []=>some []
 | .tmp t::rs=>match Z9 ev h rs with
   |some l=>some (ev (.tmp t)::l)
   |none=>none
 | .cell a T::rs=>match zX P T h (ev (.tmp a)),Z9 ev h rs with
   |some x,some l=>some (x::l)
   |_,_=>none
def bRs(ev:Operand→AV)(h:List AObj)(rs:List ResultVar):Option AV:=
 match Z9 P ev h rs with
 |some [x]=>some x
 |some l=>some (.tup l)
 |none=>none
def bQf(n:Nat)(rs:List ResultVar):Option (List bIj)→Ends
 |none=>none
 |some l=>aRj l fun p=>match p.1 with
  | .normal| .ret=>match bRs P (evT G n p.2.1) p.2.2 rs with
    |some x=>some [(x,p.2.2)]
    |none=>none
  |_=>none
def argsT:ET→Nat→List AV→ET
 |e,_,[]=>e
 |e,i,a::l=>argsT (e.set i a) (i+1) l
def dpt(n:Nat):Nat:=if n≤16 then 4 else if n≤64 then 6 else if n≤256 then 8 else if n≤1024 then 10 else 14
abbrev bSc:=FuncId→List AV→Option AV
def bRj(lib:bSc)(how:FuncId→How)(E:FuncId→List AV→List AObj→Ends):aKp:=fun dr f A h=>
 match lib f (A.map (gZ dep h))with
 |some r=>some [mat r (gU r h A)]
 |none=>
 if(how f).heap && !dr then E f A h else
 match E f (A.map (gZ dep h)) [],P.funcs[f]? with
 |some ((x,h1)::l),some fn=>
  if l.all fun q=>Z7 (bPw P q.2 fn.resultTypes.toList q.1) (bPw P h1 fn.resultTypes.toList x)then some [mat (bPw P h1 fn.resultTypes.toList x) (gU (bPw P h1 fn.resultTypes.toList x) h A)]else none
 |_,_=>none
def bSm(P:Program)(rx:Bool)(th:Nat→Option TH)(f:FuncId):Bool:=match P.funcs[f]? with
 |some fn=>match fn.body with
  |some c=>iC P f&&jF rx th c
  |none=>false
 |none=>false
def bVx(lib:bSc)(how:FuncId→How)(ok:FuncId→Bool):Nat→FuncId→List AV→List AObj→Ends
 |0,_,_,_=>none
 |n + 1,f,A,h=>match P.funcs[f]? with
  |none=>none
  |some fn=>match fn.body with
   |none=>none
   |some c=>if ok f then
    match strip (how f).rx (how f).th c with
    |none=>none
    |some ac=>if fn.ntmps≤16384∧A.length≤fn.ntmps then bQf P G fn.ntmps fn.results.toList (tJ P G (bRj P lib how (bVx lib how ok n)) fn.ntmps n ac (argsT (ET.mk (dpt fn.ntmps)) 0 A) h)else none
    else none
end
section
variable {P:Program} {G:Glob}
theorem R3{env:List AV}{h:List AObj}:∀(rs:List ResultVar),Z9 P (aev G env) h rs=G8 P env h rs
 | []=>rfl
 | .tmp t::rs=>by
   rw[Z9,G8,R3 rs,aGs];cases G8 P env h rs<;>rfl
 | .cell a T::rs=>by
   rw[Z9,G8,R3 rs,aGs];rfl
theorem bHp{env:List AV}{h:List AObj}{rs:List ResultVar}:bRs P (aev G env) h rs=R4 P rs env h:=by
 rw[bRs,R3,R4];rfl
theorem bGb{n k:Nat}{rs:List ResultVar}{x:Option (List bIj)}{l:List (AV×List AObj)}(e:bQf P G n rs x=some l):∃m,x=some m∧∀p∈m,∀env,aCk n k p.2.1 env→(p.1=.normal∨p.1=.ret)∧∃y,R4 P rs env p.2.2=some y∧(y,p.2.2)∈l:=by
 unfold bQf at e;split at e
 ·cases e
 ·rename_i m;refine⟨m,rfl,fun p hp env r=>?_⟩;obtain⟨a,ha,hs⟩:=aBv e p hp;rw[r.ev G,bHp]at ha;split at ha
  ·rename_i hx;split at ha
   ·rename_i y hy;cases ha;exact⟨.inl hx,y,hy,hs _ (dL _)⟩
   ·cases ha
  ·rename_i hx;split at ha
   ·rename_i y hy;cases ha;exact⟨.inr hx,y,hy,hs _ (dL _)⟩
   ·cases ha
  ·cases ha
theorem aOk{k:Nat}:∀(l:List AV) (e:ET) (i:Nat) (pre:List AV) (m:Nat),pre.length=i→i+l.length≤m→aCk m k e (pre++List.replicate (m-i) .u)→aCk m k (argsT e i l) (pre++l++List.replicate (m-(i+l.length)) .u)
 | [],e,i,pre,m,hp,hm,r=>by rw[argsT];simpa using r
 |a :: l,e,i,pre,m,hp,hm,r=>by
  rw[aQ]at hm;have r1:=r.put (d:=i) (by omega) a;have e1:(pre++List.replicate (m-i) AV.u).set i a=(pre++[a])++List.replicate (m-(i+1)) AV.u:=by
   rw[jU _ _ (by omega),hp,wO,show m-i=(m-(i+1))+1 by omega,gV,iF,bU];rfl
  rw[e1]at r1;have:=aOk l (e.set i a) (i+1) (pre++[a]) m (by simp[hp]) (by omega) r1;rw[argsT];simpa[eK,nW 1]using this
theorem cEr{m:Nat}(h:m≤16384):aCk m (dpt m) (ET.mk (dpt m)) (List.replicate m .u):=by
 refine⟨by simp,?_,ET.full_mk _,fun t ht=>by rw[ET.get_mk];simp[List.getD,ht]⟩;unfold dpt;repeat' split
 all_goals omega
def bIi(P:Program)(G:Glob)(E:FuncId→List AV→List AObj→Ends):Prop:=
 ∀f A h l,E f A h=some l→∃(rx:Bool) (th:Nat→Option TH) (fn:Func) (c:Code) (ac:kN),P.funcs[f]? = some fn∧fn.body=some c∧iC P f=true∧jF rx th c=true∧strip rx th c=some ac ∧
  ∀K:AV→List AObj→Prop,(∀p∈l,K p.1 p.2)→awx P G ac (fun e env h'=>(e=.normal∨e=.ret)∧∃x,R4 P fn.results.toList env h'=some x∧K x h') (A++List.replicate (fn.ntmps-A.length) .u) h
theorem bIi.ctr(hm:P.follows .mixedOrders=true)(hG:oR G){E:FuncId→List AV→List AObj→Ends}(he:bIi P G E){f:FuncId}{A:List AV}{l:List (AV×List AObj)}{r:AV}(e:E f A []=some l)(k:∀p∈l,Fin p.2 p.1 r):Ctr P G f A r:=by
 obtain⟨rx,th,fn,c,ac,h1,h2,h3,h4,h5,h6⟩:=he _ _ _ _ e;exact qV hm h1 h2 h3 h4 h5 hG (h6 (fun x h=>Fin h x r) k)
def bBf(P:Program)(G:Glob)(lib:bSc):Prop:=∀f A r,lib f A=some r→Ctr P G f A r
def cCm(l:List (FuncId×List AV×AV)):bSc:=fun f A=>match l.find? fun e=>Nat.beq e.1 f&&avEqL e.2.1 A with
 |some e=>some e.2.2
 |none=>none
theorem bMf{l:List (FuncId×List AV×AV)}(h:∀e∈l,Ctr P G e.1 e.2.1 e.2.2):bBf P G (cCm l):=by
 intro f A r e;unfold cCm at e;split at e
 ·rename_i x hx;cases e;have h1:=List.find?_some hx;rw[aA]at h1;have h2:=h x (lN hx);rw[avEqL_ok _ _ h1.2]at h2;rwa[Nat.eq_of_beq_eq_true h1.1]at h2
 ·cases e
theorem bVe{how:FuncId→How}{l:List FuncId}(h:l.all (fun f=>bSm P (how f).rx (how f).th f)=true):∀f,l.contains f=true→bSm P (how f).rx (how f).th f=true:=fun f hf=>bF.1 h f (by simpa using hf)
theorem bHa(hm:P.follows .mixedOrders=true)(hG:oR G){lib:bSc}(hl:bBf P G lib){how:FuncId→How}{E:FuncId→List AV→List AObj→Ends}(he:bIi P G E):S5 P G (bRj P lib how E):=by
 intro dr f A h l e K k;unfold bRj at e;split at e
 ·rename_i r hr;cases e;have hK:=k _ (dL _);have c:=hl _ _ _ hr;unfold G5;split
  ·exact⟨_,c,hK⟩
  ·exact .inl (ACalls.sem c hK)
 split at e
 ·rename_i hh;simp only[aA,eF]at hh;rw[hh.2];obtain⟨rx,th,fn,c,ac,h1,h2,h3,h4,h5,h6⟩:=he _ _ _ _ e;exact .inl (uZ hm h1 h2 h3 h4 h5 (h6 K k))
 ·split at e
  ·rename_i x h1 m fn hE _;split at e
   ·rename_i hall;cases e;have hK:=k _ (dL _);have c:Ctr P G f (A.map (gZ dep h)) (bPw P h1 fn.resultTypes.toList x):=he.ctr hm hG hE fun p hp=>by
     rcases cH.1 hp with rfl|hp
     ·exact aNe
     ·rw[← aJz _ _ (bF.1 hall p hp)];exact aNe
    unfold G5;split
    ·exact⟨_,c,hK⟩
    ·exact .inl (ACalls.sem c hK)
   ·cases e
  ·cases e
theorem aWy(hm:P.follows .mixedOrders=true)(hG:oR G){lib:bSc}(hl:bBf P G lib)(how:FuncId→How){ok:FuncId→Bool}(hok:∀f,ok f=true→bSm P (how f).rx (how f).th f=true):∀n,bIi P G (bVx P G lib how ok n)
 |0=>fun f A h l e=>by cases e
 |n + 1=>fun f A h l e=>by
  rw[bVx]at e;split at e
  ·cases e
  rename_i fn h1;split at e
  ·cases e
  rename_i c h2;split at e
  ·rename_i h3;have h3:=hok _ h3;rw[bSm,h1]at h3;dsimp only at h3;rw[h2]at h3;dsimp only at h3;rw[aA]at h3;split at e
   ·cases e
   rename_i ac h5;split at e
   ·rename_i h6;refine⟨_,_,fn,c,ac,h1,h2,h3.1,h3.2,h5,fun K k=>?_⟩;obtain⟨m,hm1,hm2⟩:=bGb (k:=dpt fn.ntmps) e;have r0:=aOk A _ 0 [] fn.ntmps rfl (by omega) (by simpa using cEr h6.1);simp only[aJ,dM]at r0;refine sI (bHa hm hG hl (aWy hm hG hl how hok n)) n ac _ _ _ m _ r0 hm1 fun p hp env r=>?_;obtain⟨a,y,hy,hl⟩:=hm2 p hp env r;exact⟨a,y,hy,k _ hl⟩
   ·cases e
  ·cases e
theorem bMs(hm:P.follows .mixedOrders=true)(hG:oR G){lib:bSc}(hl:bBf P G lib)(how:FuncId→How){ok:FuncId→Bool}(hok:∀f,ok f=true→bSm P (how f).rx (how f).th f=true)(n:Nat){f:FuncId}{A:List AV}{r:AV}(e:(match bVx P G lib how ok n f A []with|some l=>l.all fun p=>Z7 (Y5 p.2 p.1) r|none=>false)=true):Ctr P G f A r:=by
 cases hx:bVx P G lib how ok n f A []with
 |none=>rw[hx]at e;cases e
 |some l=>
  rw[hx]at e;refine(aWy hm hG hl how hok n).ctr hm hG hx fun p hp=>?_;rw[← aJz _ _ (bF.1 e p hp)];exact aNd
end
end Go.Vo
