/-
  The abstract layer, part O: code over abstract states: a predicate by recursion on the code, and that it speaks of the model's run. It speaks of any program; no condition.
-/
import Derived.Test.YtdjcggcjlphdoaaGreatDoorVoP12
import Derived.Orders
set_option linter.unusedVariables false
set_option linter.unusedSimpArgs false
set_option linter.constructorNameAsVariable false
namespace Go.Vo
structure gA where
 dst:Option Nat
 op:Op
 gd:Option (Nat×Bool)
 ck:Bool
 deriving Inhabited
structure DR where
 N:Nat
 L:List Nat
structure TH where
 N:Option Nat
 L:List Nat
 v:Bool
 m:Bool
 split:Bool
 x:List Nat:=[]
 z:List Nat:=[]
 k:Nat:=0
instance{n:Nat}:OfNat TH n:=⟨⟨some n,[],false,false,false,[],[],0⟩⟩
def cHx(t:Option TH)(n:Nat):DR:=
 match t with
 |some t=>⟨t.N.getD n,t.L⟩
 |Option.none=>⟨n,[]⟩
structure RX where
 on:Bool
 v:Bool
 m:Bool
 x:List Nat
 z:List Nat
def RX.off:RX:=⟨false,false,false,[],[]⟩
def lH(rx:Bool)(t:Option TH):RX:=
 match t with
 |some t=>⟨rx,t.v,t.m,t.x,t.z⟩
 |Option.none=>⟨rx,false,false,[],[]⟩
def DR.old(M:DR)(id:Nat):Prop:=
 match M.L with
 | []=>id<M.N
 |x::l=>id<M.N∧id∉x::l
def DR.mut(M:DR)(id:Nat):Prop:=
 match M.L with
 | []=>M.N≤id
 |x::l=>M.N≤id∨id∈x::l
theorem DR.apart{M:DR}{i j:Nat}(a:M.old i)(b:M.mut j):i≠j:=by
 unfold DR.old at a;unfold DR.mut at b;rintro rfl;split at a
 ·rename_i e;rw[e]at b;simp only at b;omega
 ·rename_i e;rw[e]at b;simp only at b;rcases b with b|b
  ·omega
  ·exact a.2 b
def AObj.strip:AObj→AObj
 | .box _ c=>.box false c
 | .arr _ s c=>.arr false s c
 | .map _ k v=>.map false k v
 |o=>o
def nK(N:DR)(h h':List AObj):Prop:=∀(id:Nat) (o:AObj),N.old id→h[id]? = some o→∃o',h'[id]? = some o'∧o'.strip=o.strip
structure Md where
 g:Glob
 pan:Value→List AV→List AObj→Prop
 ds:List Deferred
abbrev pl(g:Glob):Md:=⟨g,fun _ _ _=>False,[]⟩
instance:Coe Md Glob:=⟨Md.g⟩
instance:Coe Glob Md:=⟨pl⟩
abbrev Md.np(G:Md):Md:=⟨G.g,fun _ _ _=>False,G.ds⟩
inductive kN where
 |skip
 |region (ops:List gA)
 |draw (th:Option TH) (ops:List gA)
 |seq (a b:kN)
 |cond (c:Operand) (a b:kN)
 |block (id:Nat) (c:kN)
 |loop (c:kN)
 |exit (id:Nat)
 |ret
 |raw (c:Code)
 deriving Inhabited
def F9(x:Option (AV×List AObj))(K:AV→List AObj→Prop):Prop:=
 match x with
 |some (r,h)=>K r h
 |Option.none=>False
def tH(c:AV)(A B:Prop):Prop:=
 match c with
 | .b x=>(x=true→A)∧(x=false→B)
 |_=>False
def T7(a:AV)(want:Bool):AV:=
 match a with
 | .b x=>.b (x == want)
 | .tup []=>.b false
 |_=>.u
def tU(h:List AObj):AV→Bool
 | .hs id _ _ _=>match h[id]? with
   |some (.arr _ _ cells)=>persL cells
   |_=>true
 |a=>pers a
def G5(P:Program)(G:Glob)(pn:Value→List AObj→Prop)(dr:Bool)(f:FuncId)(A:List AV)(h:List AObj)(K:AV→List AObj→Prop):Prop:=
 if dr then ∃r,Ctr P G f (A.map (gZ dep h)) r∧K (mat r (gU r h A)).1 (mat r (gU r h A)).2 else ACalls P G f A h K∨rI P G f A h pn
theorem aJd{P:Program}{G:Glob}{pn:Value→List AObj→Prop}{dr:Bool}{f:FuncId}{A:List AV}{h:List AObj}{K:AV→List AObj→Prop}(k:G5 P G pn dr f A h K):ACalls P G f A h K∨(dr=false∧rI P G f A h pn):=by
 cases dr with
 |true=>obtain⟨r,s,hK⟩:=k;exact .inl (ACalls.sem s hK)
 |false=>exact k.imp id fun h=>⟨rfl,h⟩
def lS(N:DR)(a:AV):Prop:=
 match a.refs with
 |some id=>N.old id
 |Option.none=>True
def wU(N:DR):AV→Prop
 | .e0=>True
 | .hs id _ _ _=>N.mut id
 | .ptr id _=>N.mut id
 |_=>False
def uI(N:DR):List AV→Prop
 | []=>True
 |a::l=>lS N a∧uI N l
def aBn(G:Glob)(N:DR)(op:Op)(env:List AV):Prop:=
 match op with
 | .call c=>match c.callee with
   | .builtin .append=>match c.args.toList.map (aev G env)with
     | [s,_]=>wU N s
     |_=>False
   | .value _=>True
   |_=>uI N (op.operands.toList.map (aev G env))
 | .store _ a _=>wU N (aev G env a)
 | .buildSlice .. => True
 |op=>uI N (op.operands.toList.map (aev G env))
def aRb(G:Glob)(dr:Option DR)(ck:Bool)(op:Op)(env:List AV):Prop:=
 match ck,dr with
 |true,some N=>aBn G N op env
 |_,_=>True
def bVt:Operand→Bool
 | .const _=>true
 |_=>false
def aQy(l:List (Nat×Operand)):Bool := !l.isEmpty&&l.all fun p=>bVt p.2
def cEu:Operand→AV
 | .const v=>aZw v
 |_=>.u
def deE:AV→AV
 | .e0=>.sl [] 0
 |a=>a
def bBl(P:Program)(T:TypeId)(len:Nat)(ps:Array (Nat×Operand)):Option AV:=
 match fV P T with
 |some el=>match zeroOf P el with
  |some z=>if lP P el=some z.length∧0<z.length∧0<len∧len*z.length≤65536 then
   (match nU (fun i=>some (i*z.length,z.length)) (List.replicate len z).flatten (ps.toList.map fun(i,x)=>(i,cEu x))with
   |some cells=>if persL (cells.map deE)=true then some (.sl (cells.map deE) len)else Option.none
   |Option.none=>Option.none)else Option.none
  |Option.none=>Option.none
 |Option.none=>Option.none
def aRl(P:Program)(ev:Operand→AV)(T:TypeId)(len:Nat)(ps:Array (Nat×Operand)):Option AV:=
 match fV P T with
 |some el=>match zeroOf P el with
  |some z=>if lP P el=some z.length∧0<z.length∧0<len∧len*z.length≤65536 then
   (match nU (fun i=>some (i*z.length,z.length)) (List.replicate len z).flatten (ps.toList.map fun(i,x)=>(i,ev x))with
   |some cells=>if persL cells=true then some (.sl cells len)else Option.none
   |Option.none=>Option.none)else Option.none
  |Option.none=>Option.none
 |Option.none=>Option.none
theorem bQw{G:Glob}{env:List AV}{l:List (Nat×Operand)}(h:aQy l=true):(l.map fun(i,x)=>(i,aev G env x))=l.map fun(i,x)=>(i,cEu x):=by
 simp only[aQy,aA,bF]at h;apply iP;rintro⟨i,x⟩ hp;have:=h.2 _ hp;cases x<;>simp[bVt]at this;rfl
section
variable (P:Program) (G:Md) (dr:Bool)
def nR(env:List AV)(h:List AObj)(c:Call)(K:AV→List AObj→Prop):Prop:=
 match c.callee with
 | .builtin .append=>match c.argTypes.toList,c.args.toList.map (aev G env)with
   | [T,U],[s,x]=>if T=U then(if tU h x then F9 (iE P h T s x) K else F9 (iE P (freeze (eH dep h x) h) T s (gZ dep h x)) K)else(match P.underlying U with|some (.int _)=>F9 (sX P h T s x) K|_=>False)
   |_,_=>False
 | .builtin b=>F9 (jZ P h b c.argTypes (c.args.toList.map (aev G env))) K
 | .value fx=>match aev G env fx with
   | .fn f first capt=>G5 P G (fun v h'=>G.pan v env h') dr f (first++c.args.toList.map (aev G env)++capt) h K
   |_=>False
 | .invoke .. => False
def fY(o:Op)(K:AV→List AObj→Prop)(env:List AV)(h:List AObj):Prop:=
 match o with
 | .call c=>nR P G dr env h c K
 | .mapUpdate T m k x=>if pers (aev G env x)then(match gP P h T (aev G env m) (aev G env k) (aev G env x)with
    |some h'=>K .u h'
    |Option.none=>False)
   else(match gP P (freeze (eH dep h (aev G env x)) h) T (aev G env m) (aev G env k) (gZ dep h (aev G env x))with
    |some h'=>K .u h'
    |Option.none=>False)
 | .range T x=>if dr then False else match P.underlying T,gZ dep h (aev G env x)with
   |some (.map _ _),.mapv ks vs=>K (.ptr (freeze (eH dep h (aev G env x)) h).length 0) (freeze (eH dep h (aev G env x)) h++[.mit none ks vs])
   |some .string,.s l=>K (.ptr (freeze (eH dep h (aev G env x)) h).length 0) (freeze (eH dep h (aev G env x)) h++[.sit l 0])
   |_,_=>False
 | .next x false=>if dr then False else match aev G env x with
   | .ptr id 0=>match h[id]? with
     |some (.mit _ ks vs)=>(ks=[]→K (.tup [.b false]) h)∧∀(j:Nat) (k v:AV),ks[j]? = some k→vs[j]? = some v→K (.tup [.b true,k,v]) (h.set id (.mit (some (k,v)) (ks.eraseIdx j) (vs.eraseIdx j)))
     |_=>False
   |_=>False
 | .next x true=>if dr then False else match aev G env x with
   | .ptr id 0=>match h[id]? with
     |some (.sit l pos)=>(l.length≤pos→K (.tup [.b false]) h)∧∀(c:UInt8),l[pos]? = some c→(c.toNat<128→K (.tup [.b true,.i .i64 pos,.i .i32 c.toNat]) (h.set id (.sit l (pos+1)))) ∧
      ∀(rn k:Nat),128≤c.toNat→128≤rn→rn≤2147483647→1≤k→K (.tup [.b true,.i .i64 pos,.i .i32 rn]) (h.set id (.sit l (pos+k)))
     |_=>False
   |_=>False
 | .entry x=>if dr then False else match aev G env x with
   | .ptr id 0=>match h[id]? with
     |some (.mit (some (k,v)) _ _)=>K (.tup [k,v]) h
     |_=>False
   |_=>False
 | .panic x=>match dr,aev G env x with
   |false,.p (.iface T v)=>G.pan (.iface T v) env h
   |_,_=>False
 | .makeMap T Option.none=>if dr then K (.mapv [] []) h else K (.mp h.length) (h++[.map false [] []])
 | .buildSlice T len ps=>F9 (if(dr&&aQy ps.toList)=true then(bBl P T len ps).map fun v=>(v,h)else aop P G env h (.buildSlice T len ps)) K
 |o=>F9 (aop P G env h o) K
end
def bSk(y:Operand)(op:BinOp)(T:TypeId)(x:Operand):Option (TypeId×Operand):=
 match y with
 | .const (.slice Option.none 0 0)=>(match op with| .eql=>some (T,x)|_=>Option.none)
 |_=>Option.none
def fU:Op→Option (TypeId×Operand)
 | .binOp op T x y _=>bSk y op T x
 |_=>Option.none
def bJi(P:Program)(T:TypeId)(v:AV)(K:AV→Prop):Prop:=
 match P.underlying T with
 |some (.slice _)=>(match v with
  | .e0=>K (.b true)∧K (.b false)
  | .sl _ n=>(n=0→K (.b true))∧K (.b false)
  |_=>False)
 |_=>False
def lU(P:Program)(T:TypeId):Option Nat:=
 match P.underlying T with
 |some (.array _ e)=>lP P e
 |_=>Option.none
def rJ(P:Program)(ev:Operand→AV):Op→Option (Nat×List AV)
 | .alloc T=>match lU P T with
   |some sz=>(zeroOf P T).map (sz,·)
   |Option.none=>Option.none
 | .box T x=>match lU P T with
   |some sz=>(kY (ev x)).map (sz,·)
   |Option.none=>Option.none
 |_=>Option.none
section
variable (P:Program) (G:Md) (dr:Option DR)
def pS(op:Op)(K:AV→List AObj→Prop)(env:List AV)(h:List AObj):Prop:=
 match fU op,dr with
 |some (T,x),Option.none=>bJi P T (aev G env x) (fun r=>K r h)
 |_,_=>match rJ P (aev G env) op with
  |some (sz,cells)=>(match dr with
   |Option.none=>K (.ptr h.length 0) (h++[.arr false sz cells])
   |some _=>fY P G dr.isSome op K env h)
  |Option.none=>fY P G dr.isSome op K env h
def vOp(dr:Option DR)(ck:Bool):Op→Option (TypeId×Nat×Array (Nat×Operand))
 | .buildSlice T len ps=>if ck&&dr.isSome then some (T,len,ps)else Option.none
 |_=>Option.none
def zOp(dr:Option DR)(ck:Bool):Op→Option (Call×DR)
 | .call ⟨.value f,as,ts⟩=>match ck,dr with
   |true,some N=>some (⟨.value f,as,ts⟩,N)
   |_,_=>Option.none
 |_=>Option.none
def bSt(N:DR)(c:Call)(K:AV→List AObj→Prop)(env:List AV)(h:List AObj):Prop:=
 ∃x h',fY P G.np false (.call c) (fun x1 h1=>x1=x∧h1=h') env h∧nK N h h'∧K x h'
def aPp(ck:Bool)(op:Op)(K:AV→List AObj→Prop)(env:List AV)(h:List AObj):Prop:=
 match vOp dr ck op with
 |some (T,len,ps)=>F9 ((aRl P (aev G env) T len ps).map fun v=>(v,h)) K
 |Option.none=>match zOp dr ck op with
  |some (c,N)=>bSt P G N c K env h
  |Option.none=>pS P G dr op K env h
def dN : List gA→(List AV→List AObj→Prop)→List AV→List AObj→Prop
 | [],K,env,h=>K env h
 |o::os,K,env,h=>
  match o.gd with
  |Option.none=>aRb G dr o.ck o.op env∧aPp P G dr o.ck o.op (fun r h'=>dN os K (iV env o.dst r) h') env h
  |some (t,want)=>tH (T7 (env.getD t .u) want)
   (aRb G dr o.ck o.op env∧aPp P G dr o.ck o.op (fun r h'=>dN os K (iV env o.dst r) h') env h) (dN os K (iV env o.dst (.tup [])) h)
end
def tW(K:List AV→List AObj→Prop)(Q:Exit→List AV→List AObj→Prop):Exit→List AV→List AObj→Prop
 | .normal,env,h=>K env h
 |e,env,h=>Q e env h
def F0(id:Nat)(Q:Exit→List AV→List AObj→Prop):Exit→List AV→List AObj→Prop
 | .exit i,env,h=>if i=id then Q .normal env h else Q (.exit i) env h
 |e,env,h=>Q e env h
def Loop(B:(Exit→List AV→List AObj→Prop)→List AV→List AObj→Prop)(Q:Exit→List AV→List AObj→Prop)(env:List AV)(h:List AObj):Prop:=
 ∃(S:Type) (I:S→List AV→List AObj→Prop) (μ:S→Nat) (s0:S),I s0 env h∧∀s env h,I s env h→B (tW (fun e' h'=>∃s',I s' e' h'∧μ s'<μ s) Q) env h
def mI(G:Md)(X:Ctx)(w:World)(h:List AObj)(K:List AV→List AObj→Prop)(a':Act)(w':World):Prop:=
 ∃env' h' X',K env' h'∧GH G X' w' h'∧EnvOK G.ds X' w' h' env' a'∧Tr X w h X' w' h'
def bOb(G:Md)(Q:Exit→List AV→List AObj→Prop):Exit→List AV→List AObj→Prop
 | .panic ch,env,h=>∃v,ch=[{v:=v,recovered:=false}]∧G.pan v env h
 |e,env,h=>Q e env h
theorem aIh{G:Glob}{Q:Exit→List AV→List AObj→Prop}{e:Exit}{env:List AV}{h:List AObj}(k:bOb (pl G) Q e env h):Q e env h:=by
 cases e with
 |panic ch=>obtain⟨_,_,k⟩:=k;exact k.elim
 |_=>exact k
def AW(P:Program)(G:Md)(c:Code)(Q:Exit→List AV→List AObj→Prop)(env:List AV)(h:List AObj):Prop:=
 ∀(X:Ctx) (w:World) (a:Act),GH G X w h→EnvOK G.ds X w h env a→c.wp P (fun e a' w'=>mI G X w h (bOb G Q e) a' w') a w
section
variable (P:Program) (G:Md)
def awx:kN→(Exit→List AV→List AObj→Prop)→List AV→List AObj→Prop
 | .skip,Q,env,h=>Q .normal env h
 | .region ops,Q,env,h=>dN P G Option.none ops (Q .normal) env h
 | .draw th ops,Q,env,h=>dN P G (some (cHx th h.length)) ops (Q .normal) env h
 | .seq a b,Q,env,h=>awx a (tW (awx b Q) Q) env h
 | .cond c a b,Q,env,h=>tH (aev G env c) (awx a Q env h) (awx b Q env h)
 | .block id c,Q,env,h=>awx c (F0 id Q) env h
 | .loop c,Q,env,h=>Loop (awx c) Q env h
 | .exit id,Q,env,h=>Q (.exit id) env h
 | .ret,Q,env,h=>Q .ret env h
 | .raw c,Q,env,h=>AW P G c Q env h
end
def anyPre(o:Oper):List Nat:=(o.after.toList.filter (Region.binds .any)).map (·.on)
def sV(t:Tmp)(o:Oper):Bool:=
 match o.op with
 | .buildSlice .. => o.dst == some t
 | .call ⟨.builtin .append,_,_⟩=>o.dst == some t
 |_=>false
def sB(o:Oper):Bool:=
 match o.op with
 | .call ⟨.builtin .append,_,_⟩=>true
 |_=>false
def xE(ops:Array Oper)(q:Oper→Bool):List Nat→Bool
 | []=>false
 |e::es=>(match ops[e]? with|some o=>q o|Option.none=>false)||xE ops q es
def kK(o:Oper):Bool:=
 match o.op with
 | .store .. => true
 |_=>false
def aJf(o:Oper):Bool:=
 match o.op with
 | .load .. | .slice .. | .nilCheck _| .fieldAddr .. | .indexAddr .. | .lookup .. => true
 | .call ⟨.builtin .len,_,_⟩=>true
 |_=>false
def qI(ops:Array Oper)(q:Oper→Bool)(o:Oper):Bool:=o.after.toList.any fun d => !(Region.binds .any d)&&(match ops[d.on]? with|some p=>q p|Option.none=>false)
def rA(ops:Array Oper)(o:Oper):Bool:=o.dst.isSome&&ops.toList.any fun p=>kK p&&p.after.toList.any fun d => !(Region.binds .any d)&&(match ops[d.on]? with|some q=>q.dst == o.dst|Option.none=>false)
def rC(ops:Array Oper):Bool:=ops.toList.any sB
def aNu(m:Bool)(ops:Array Oper)(o:Oper):Bool:=
 match o.op with
 | .call c=>match c.callee with
   | .builtin .append=>match c.args.toList with
     | [.tmp t,_]=>m||xE ops (sV t) (anyPre o)
     |_=>false
   | .builtin .len=>(rC ops && !xE ops sB (anyPre o))||qI ops kK o||(m&&rA ops o)
   |_=>false
 | .load .. | .slice .. | .nilCheck _| .fieldAddr .. | .indexAddr .. | .lookup .. => (rC ops && !xE ops sB (anyPre o))||qI ops kK o||(m&&rA ops o)
 | .store .. => qI ops aJf o
 |_=>false
def G6(ops:Array Oper)(o:Oper):Bool:=
 match o.dst with
 |some t=>ops.toList.any fun p=>match p.op with
  | .call ⟨.builtin .append,as,_⟩=>(match as.toList with
    | [.tmp s,_]=>s == t
    |_=>false)
  |_=>false
 |Option.none=>false
def xI(ops:Array Oper)(o:Oper):Bool:=
 match o.op with
 | .buildSlice _ _ ps=>o.guard.isNone&&(!ps.toList.isEmpty && !G6 ops o)
 |_=>false
def vOf(rx:RX)(ops:Array Oper)(o:Oper):Bool:=rx.v&&xI ops o
def exd:List Nat→Option Nat→Bool
 | [],_=>false
 |d::l,t=>t == some d||exd l t
def ckX(rx:RX)(ops:Array Oper)(o:Oper):Bool:=(aNu rx.m ops o||(!rx.z.isEmpty&&aJf o)) && !exd rx.x o.dst
def zOf(rx:RX)(o:Oper):Bool:=
 match o.op with
 | .call ⟨.value _,_,_⟩=>exd rx.z o.dst
 |_=>false
def ckF(rx:RX)(ops:Array Oper)(o:Oper):Bool:=(rx.on&&ckX rx ops o)||(vOf rx ops o||zOf rx o)
def dR(rx:RX)(ops:Array Oper)(o:Oper):Option gA:=
 match o.guard with
 |Option.none=>some ⟨o.dst,o.op,Option.none,ckF rx ops o⟩
 |some (j,want)=>match (ops[j]?).bind (·.dst)with
  |some d=>some ⟨o.dst,o.op,some (d,want),ckF rx ops o⟩
  |Option.none=>Option.none
def bY(rx:RX)(ops:Array Oper):List Oper→Option (List gA)
 | []=>some []
 |o::os=>match dR rx ops o,bY rx ops os with
  |some a,some l=>some (a::l)
  |_,_=>Option.none
section
variable {P:Program} {G:Md} {dr:Bool}
theorem bOd{X:Ctx}{w:World}{h:List AObj}{env:List AV}{a:Act}{K:AV→List AObj→Prop}{o:Oper}(g:GH G X w h)(r:EnvOK G.ds X w h env a)(e:F9 (aop P G env h o.op) K) :
 ∃x h',K x h'∧vG G X w h ((execOp a.eval o).run P w) x h':=by
 cases ha:aop P G env h o.op with
 |none=>rw[ha]at e;exact e.elim
 |some q=>
  obtain⟨x,h'⟩:=q;rw[ha]at e;exact⟨x,h',e,cAs g r o ha⟩
theorem lE{X:Ctx}{w:World}{h:List AObj}{env:List AV}{a:Act}{o:Oper}{x:AV}{h':List AObj}{next:Act→World→Prop}{Q:Exit→Act→World→Prop}(r:EnvOK G.ds X w h env a)
 (e:vG G X w h ((execOp a.eval o).run P w) x h') (hn:∀a' w' X',GH G X' w' h'→EnvOK G.ds X' w' h' (iV env o.dst x) a'→Tr X w h X' w' h'→next a' w'):o.wp P a w next Q:=by
 obtain⟨X',w',nx,v,hrun,hnx,rx,g',t⟩:=e;unfold Oper.wp;rw[hrun];rcases hnx with rfl|⟨rfl,rfl⟩
 ·exact hn _ _ _ g' ((r.mono t.ext).put _ rx) t
 ·exact hn _ _ _ g' ((r.mono t.ext).put _ rx) t
theorem aRo{X:Ctx}{w:World}{h:List AObj}{env:List AV}{a:Act}{K:AV→List AObj→Prop}(o:Oper)(c:Call)(ho:o.op=.call c)(hc:c.callee=.builtin .append)(g:GH G X w h)(r:EnvOK G.ds X w h env a)
 (e:nR P G dr env h c K):∃x h',K x h'∧vG G X w h ((execOp a.eval o).run P w) x h':=by
 unfold nR at e;rw[hc]at e;simp only at e;split at e;case h_2=>exact e.elim
 rename_i T U s x hty harg;obtain⟨o1,o2,ho1⟩:∃o1 o2,c.args = #[o1,o2]:=by
  have:c.args.toList.length=2:=by have:=congrArg List.length harg;simpa using this
  match hc:c.args with
  |⟨[o1,o2]⟩=>exact⟨o1,o2,rfl⟩
  |⟨[]⟩=>simp[hc]at this
  |⟨[_]⟩=>simp[hc]at this
  |⟨_::_::_::_⟩=>simp[hc]at this
 have htys:c.argTypes = #[T,U]:=by rw[← jC (xs:=c.argTypes),hty]
 simp only[ho1,aK,aZ,iK,and_true]at harg;obtain⟨rfl,rfl⟩:=harg;have hexec:∀y' w',(Builtin.append_ #[T,U] o.type #[a.eval o1,a.eval o2]).run P w=.ok y' w'→(execOp a.eval o).run P w=.ok (.value y') w':=by
  intro y' w' hrun;unfold execOp;simp only[ho];simp[resolve,hc,ho1,htys,invoke,builtin,hrun]
 split at e;case isFalse=>
  split at e;case h_2=>exact e.elim
  rename_i kn hU;cases ha:sX P h T (aev G env o1) (aev G env o2)with
  |none=>rw[ha]at e;exact e.elim
  |some q=>
   obtain⟨y,h'⟩:=q;rw[ha]at e;obtain⟨X',w',y',hrun,rr,g',t⟩:=aCr (ty:=o.type) hU g (jG g r o1) (jG g r o2) ha;exact⟨y,h',e,X',w',_,_,hexec _ _ hrun,.inl rfl,rr,g',t⟩
 rename_i hTU;subst hTU;split at e
 ·cases ha:iE P h T (aev G env o1) (aev G env o2)with
  |none=>rw[ha]at e;exact e.elim
  |some q=>
   obtain⟨y,h'⟩:=q;rw[ha]at e;obtain⟨X',w',y',hrun,rr,g',t⟩:=zV (ty:=o.type) g (jG g r o1) (jG g r o2) ha;exact⟨y,h',e,X',w',_,_,hexec _ _ hrun,.inl rfl,rr,g',t⟩
 ·obtain⟨X1,g1,r1,t1⟩:=pH g (jG g r o2);cases ha:iE P (freeze (eH dep h (aev G env o2)) h) T (aev G env o1) (gZ dep h (aev G env o2))with
  |none=>rw[ha]at e;exact e.elim
  |some q=>
   obtain⟨y,h'⟩:=q;rw[ha]at e;obtain⟨X',w',y',hrun,rr,g',t⟩:=zV (ty:=o.type) g1 ((jG g r o1).mono t1.ext) r1 ha;exact⟨y,h',e,X',w',_,_,hexec _ _ hrun,.inl rfl,rr,g',t1.trans t⟩
theorem aPa{X:Ctx}{w:World}{h:List AObj}{env:List AV}{a:Act}{K:AV→List AObj→Prop}(o:Oper)(T:TypeId)(m k x:Operand)(ho:o.op=.mapUpdate T m k x)(g:GH G X w h)(r:EnvOK G.ds X w h env a)
 (e:fY P G dr o.op K env h):∃x h',K x h'∧vG G X w h ((execOp a.eval o).run P w) x h':=by
 rw[ho]at e;unfold fY at e;simp only at e;have hexec:∀w',(Instr.mapUpdate T (a.eval m) (a.eval k) (a.eval x)).run P w=.ok () w'→(execOp a.eval o).run P w=.ok .skip w':=by
  intro w' hrun;unfold execOp;simp only[ho];simp[hrun]
 split at e
 ·cases ha:gP P h T (aev G env m) (aev G env k) (aev G env x)with
  |none=>rw[ha]at e;exact e.elim
  |some h'=>
   rw[ha]at e;obtain⟨w',hrun,g',t⟩:=uL g (jG g r m) (jG g r k) (jG g r x) ha;exact⟨.u,h',e,X,w',_,_,hexec _ hrun,.inr ⟨rfl,rfl⟩,.u _,g',t⟩
 ·obtain⟨X1,g1,r1,t1⟩:=pH g (jG g r x);cases ha:gP P (freeze (eH dep h (aev G env x)) h) T (aev G env m) (aev G env k) (gZ dep h (aev G env x))with
  |none=>rw[ha]at e;exact e.elim
  |some h'=>
   rw[ha]at e;obtain⟨w',hrun,g',t⟩:=uL g1 ((jG g r m).mono t1.ext) ((jG g r k).mono t1.ext) r1 ha;exact⟨.u,h',e,X1,w',_,_,hexec _ hrun,.inr ⟨rfl,rfl⟩,.u _,g',t1.trans t⟩
theorem aUe{X:Ctx}{w:World}{h:List AObj}{env:List AV}{a:Act}{K:AV→List AObj→Prop}(o:Oper)(T:TypeId)(x:Operand)(ho:o.op=.range T x)(g:GH G X w h)(r:EnvOK G.ds X w h env a)
 (e:fY P G dr o.op K env h):∃x h',K x h'∧vG G X w h ((execOp a.eval o).run P w) x h':=by
 rw[ho]at e;unfold fY at e;simp only at e;split at e
 ·exact e.elim
 split at e
 ·rename_i K' E ks vs hT hs;obtain⟨X1,g1,r1,t1⟩:=pH g (jG g r x);rw[hs]at r1;obtain⟨X',w',u,hrun,ru,g',t⟩:=bDb hT g1 r1;refine⟨_,_,e,X',w',_,_,?_,.inl rfl,ru,g',t1.trans t⟩;unfold execOp;simp only[ho];simp[hrun]
 ·rename_i l hT hs;obtain⟨X1,g1,r1,t1⟩:=pH g (jG g r x);rw[hs]at r1;obtain⟨X',w',u,hrun,ru,g',t⟩:=aUf hT g1 r1;refine⟨_,_,e,X',w',_,_,?_,.inl rfl,ru,g',t1.trans t⟩;unfold execOp;simp only[ho];simp[hrun]
 ·exact e.elim
theorem bEk{X:Ctx}{w:World}{h:List AObj}{env:List AV}{a:Act}{K:AV→List AObj→Prop}(o:Oper)(x:Operand)(ho:o.op=.next x false)(g:GH G X w h)(r:EnvOK G.ds X w h env a)
 (e:fY P G dr o.op K env h):∃x h',K x h'∧vG G X w h ((execOp a.eval o).run P w) x h':=by
 rw[ho]at e;unfold fY at e;simp only at e;split at e
 ·exact e.elim
 split at e
 ·rename_i id hx;split at e
  ·rename_i cur ks vs hid;have rx:=jG g r x;rw[hx]at rx;have hexec:∀y' w',(Instr.next (a.eval x) false o.type).run P w=.ok y' w'→(execOp a.eval o).run P w=.ok (.value y') w':=by
    intro y' w' hrun;unfold execOp;simp only[ho];simp[hrun]
   rcases bOu (ty:=o.type) hid g rx with⟨hk,hrun⟩|⟨j,k,v,hk,hv,w',kv,xv,hrun,rk,rv,g',t⟩
   ·exact⟨_,_,e.1 hk,X,w,_,_,hexec _ _ hrun,.inl rfl,.tup rfl (fun j a v ha hv=>by
     cases j with
     |zero=>simp at ha hv;subst ha;subst hv;exact .b _
     |succ j=>simp at ha),g,.refl _ _ _⟩
   ·exact⟨_,_,e.2 j k v hk hv,X,w',_,_,hexec _ _ hrun,.inl rfl,.tup rfl (fun j a v ha hv=>by
     match j with
     |0=>simp at ha hv;subst ha;subst hv;exact .b _
     |1=>simp at ha hv;subst ha;subst hv;exact rk
     |2=>simp at ha hv;subst ha;subst hv;exact rv
     |j+3=>simp at ha),g',t⟩
  ·exact e.elim
 ·exact e.elim
theorem aVq{X:Ctx}{w:World}{h:List AObj}{env:List AV}{a:Act}{K:AV→List AObj→Prop}(o:Oper)(x:Operand)(ho:o.op=.next x true)(g:GH G X w h)(r:EnvOK G.ds X w h env a)
 (e:fY P G dr o.op K env h):∃x h',K x h'∧vG G X w h ((execOp a.eval o).run P w) x h':=by
 rw[ho]at e;unfold fY at e;simp only at e;split at e
 ·exact e.elim
 split at e
 ·rename_i id hx;split at e
  ·rename_i l pos hid;have rx:=jG g r x;rw[hx]at rx;have hexec:∀y' w',(Instr.next (a.eval x) true o.type).run P w=.ok y' w'→(execOp a.eval o).run P w=.ok (.value y') w':=by
    intro y' w' hrun;unfold execOp;simp only[ho];simp[hrun]
   rcases bEl (ty:=o.type) hid g rx with⟨hk,hrun⟩|⟨c,rn,k,hc,hcase,w',hrun,g',t⟩
   ·exact⟨_,_,e.1 hk,X,w,_,_,hexec _ _ hrun,.inl rfl,.tup rfl (fun j a v ha hv=>by
     cases j with
     |zero=>simp at ha hv;subst ha;subst hv;exact .b _
     |succ j=>simp at ha),g,.refl _ _ _⟩
   ·have hK:K (.tup [.b true,.i .i64 pos,.i .i32 rn]) (h.set id (.sit l (pos+k))):=by
     rcases hcase with⟨h1,rfl,rfl⟩|⟨h1,h2,h3,h4⟩
     ·exact(e.2 c hc).1 h1
     ·exact(e.2 c hc).2 rn k h1 h2 h3 h4
    exact⟨_,_,hK,X,w',_,_,hexec _ _ hrun,.inl rfl,.tup rfl (fun j a v ha hv=>by
     match j with
     |0=>simp at ha hv;subst ha;subst hv;exact .b _
     |1=>simp at ha hv;subst ha;subst hv;exact .i _ _
     |2=>simp at ha hv;subst ha;subst hv;exact .i _ _
     |j+3=>simp at ha),g',t⟩
  ·exact e.elim
 ·exact e.elim
theorem aXv{X:Ctx}{w:World}{h:List AObj}{env:List AV}{a:Act}{K:AV→List AObj→Prop}(o:Oper)(x:Operand)(ho:o.op=.entry x)(g:GH G X w h)(r:EnvOK G.ds X w h env a)
 (e:fY P G dr o.op K env h):∃x h',K x h'∧vG G X w h ((execOp a.eval o).run P w) x h':=by
 rw[ho]at e;unfold fY at e;simp only at e;split at e
 ·exact e.elim
 split at e
 ·rename_i id hx;split at e
  ·rename_i k v _ _ hid;have rx:=jG g r x;rw[hx]at rx;obtain⟨kv,xv,hrun,rk,rv⟩:=aBh (P:=P) hid g rx;have hexec:(execOp a.eval o).run P w=.ok (.value (.tuple #[kv,xv])) w:=by
    unfold execOp;simp only[ho];simp[hrun]
   exact⟨_,_,e,X,w,_,_,hexec,.inl rfl,.tup rfl (fun j a v ha hv=>by
    match j with
    |0=>simp at ha hv;subst ha;subst hv;exact rk
    |1=>simp at ha hv;subst ha;subst hv;exact rv
    |j+2=>simp at ha),g,.refl _ _ _⟩
  ·exact e.elim
 ·exact e.elim
theorem aZh{X:Ctx}{w:World}{h:List AObj}{f:FuncId}{first capt:List AV}{v:Value}(r:RV X w h (.fn f first capt) v) :
 ∃first' capt',v=.func (.func f) first' capt'∧first.length=first'.size∧capt.length=capt'.size∧(∀(j:Nat) (a:AV) (v:Value),first[j]? = some a→first'[j]? = some v→RV X w h a v) ∧
  (∀(j:Nat) (a:AV) (v:Value),capt[j]? = some a→capt'[j]? = some v→RV X w h a v):=by
 cases r with
 |fn h1 h2 h3 h4=>exact⟨_,_,rfl,h1,h2,h3,h4⟩
 |dead hr _ _=>simp[AV.refs]at hr
theorem wE{Q:AV→Value→Prop}{as bs:List AV}{us vs:Array Value}(ha:as.length=us.size)(h1:∀(j:Nat) (a:AV) (v:Value),as[j]? = some a→us[j]? = some v→Q a v)
 (h2:∀(j:Nat) (a:AV) (v:Value),bs[j]? = some a→vs[j]? = some v→Q a v):∀(j:Nat) (a:AV) (v:Value),(as++bs)[j]? = some a→(us++vs)[j]? = some v→Q a v:=by
 intro j a v hx hv;by_cases hj:j<as.length
 ·rw[aG hj]at hx;rw[dU (by omega)]at hv;exact h1 _ _ _ hx hv
 ·rw[aR (by omega)]at hx;rw[D7 (by omega),← ha]at hv;exact h2 _ _ _ hx hv
theorem aOj{X:Ctx}{w:World}{h:List AObj}(g:GH G X w h){cells:List AV}{cs:Array Value}(T:TypeId){n cap:Nat}(hl:cells.length≤cs.size)(h1:kF cs)(hr:∀(j:Nat) (x:AV) (u:Value),cells[j]? = some x→cs[j]? = some u→RV X w h x u)(hnc:n≤cap) :
 ∃X' w',(newRow T cs).run P w=.ok ⟨w.heap.size,0,Option.none⟩ w'∧RV X' w' h (.sl cells n) (.slice (some ⟨w.heap.size,0,Option.none⟩) n cap)∧GH G X' w' h∧Tr X w h X' w' h:=by
 have hp:=iD.alloc w (.cells cs T (0,0));have hgr:=hp.grew;have e:Ext X w h ⟨fun b=>X.F b∨b=w.heap.size,X.ι⟩ (w.alloc (.cells cs T (0,0))) h:=
  ⟨fun _ f=>.inl f,fun b hb=>hp.old (g.fbnd b hb),fun b s hs=>by rw[nL (hp.old (rT hs))];exact hs,fun id o ho=>⟨o,ho,.inr ⟨AObj.like_refl _,.inl rfl⟩⟩⟩
 refine⟨⟨fun b=>X.F b∨b=w.heap.size,X.ι⟩,_,rfl,?_,⟨?_,g.dom,g.inj,?_,?_,fun k a hk=>(g.gl k a hk).mono e⟩,⟨⟨hgr.size,hgr.os,hgr.tape,hgr.output,fun b hb _=>hp.old hb,fun id b o hb=>.inr ⟨id,o,hb⟩,?_⟩,e,fun id z hid _=>hid⟩⟩
 ·exact .sl (b:=w.heap.size) (o:=0) (.inr rfl) hp.at (by omega) hnc (fun j v _ hv=>h1 j v (by simpa using hv)) (fun j a v ha hv=>(hr j a v ha (by simpa using hv)).mono e)
 ·intro id ob hob;refine(g.objs id ob hob).mono e rfl (fun b o hb=>hp.old (g.bnd _ _ _ hb)) (fun b o hb f=>?_);rcases f with f|f
  ·exact f
  ·have:=g.bnd _ _ _ hb;omega
 ·intro id b o hb;exact fS (g.bnd _ _ _ hb) hgr.size
 ·intro b hb;rcases hb with f|f
  ·exact fS (g.fbnd b f) hgr.size
  ·rw[f];have:=hp.size;show w.heap.size<(w.alloc (.cells cs T (0,0))).heap.size;omega
 ·intro b hb;rcases hb with f|f
  ·exact .inl f
  ·exact .inr (.inl (by omega))
theorem aTo{X:Ctx}{w:World}{h:List AObj}{env:List AV}{a:Act}{v:AV}(o:Oper){T:TypeId}{len:Nat}{ps:Array (Nat×Operand)}(ho:o.op=.buildSlice T len ps)(g:GH G X w h)(r:EnvOK G.ds X w h env a)(e:aRl P (aev G env) T len ps=some v) :
 vG G X w h ((execOp a.eval o).run P w) v h:=by
 unfold aRl at e;cases he:fV P T with
 |none=>simp[he]at e
 |some el=>
 have hu:=pK he;cases hz:zeroOf P el with
 |none=>simp[he,hz]at e
 |some z=>
 simp only[he,hz]at e;split at e;case isFalse=>cases e
 rename_i hcnd;obtain⟨hsz,hz0,hlen,hbig⟩:=hcnd;obtain⟨i,zv,hi,hiz,hzc⟩:=jD hz;obtain⟨z1,z2,z3⟩:=vH (X:=X) (w:=w) (h:=h) hzc len;cases hf:nU (fun i=>some (i*z.length,z.length)) (List.replicate len z).flatten (ps.toList.map fun(i,x)=>(i,aev G env x))with
 |none=>simp[hf]at e
 |some cells=>
 simp only[hf]at e;split at e;case isFalse=>cases e
 cases e;obtain⟨p1,p2⟩:=H6 g r ps;obtain⟨vout,f1,f2,f3,f4,f5⟩:=P3 (fun i=>some (i*z.length,z.length)) _ _ _ _ cells p1 p2 z1 z2 z3 hf;have hvs:vout.size=len*z.length:=by rw[f5];simp
 obtain⟨X',w',hrun,rr,g',t⟩:=aOj (P:=P) g el (n:=len) (cap:=len) (by omega) f3 f4 (bK _);unfold execOp;simp only[ho];refine⟨X',w',_,_,?_,.inl rfl,rr,g',t⟩;have hnb:¬(len*z.length>2^24):=by omega
 have f1':Instr.fill (fun i=>some (i*z.length,z.length)) ((Array.range (len*z.length)).map (zv.cells[· % zv.cells.size]!)) (ps.map fun x=>(x.1,a.eval x.2)).toList=some vout:=f1;have h0:¬len*z.length=0:=Nat.ne_of_gt (Nat.mul_pos hlen hz0);simp only[Instr.buildSlice,cD,run_underlying hu,bO,gL hsz,if_neg hnb,eE,if_neg h0,rU hi hiz,f1',hrun]
theorem bWr{X:Ctx}{w:World}{h:List AObj}{a:AV}{v:Value}(r:RV X w h a v):RV X w h (deE a) v:=by
 cases a with
 |e0=>cases r with
  |e0 a=>exact .sl0 a 0
  |dead hr _ _=>simp[AV.refs]at hr
 |_=>exact r
theorem bMn{X:Ctx}{w:World}{h:List AObj}{env:List AV}{a:Act}{v:AV}(o:Oper){T:TypeId}{len:Nat}{ps:Array (Nat×Operand)}(ho:o.op=.buildSlice T len ps)(g:GH G X w h)(r:EnvOK G.ds X w h env a)(hc:aQy ps.toList=true)(e:bBl P T len ps=some v) :
 vG G X w h ((execOp a.eval o).run P w) v h:=by
 unfold bBl at e;cases he:fV P T with
 |none=>simp[he]at e
 |some el=>
 have hu:=pK he;cases hz:zeroOf P el with
 |none=>simp[he,hz]at e
 |some z=>
 simp only[he,hz]at e;split at e;case isFalse=>cases e
 rename_i hcnd;obtain⟨hsz,hz0,hlen,hbig⟩:=hcnd;obtain⟨i,zv,hi,hiz,hzc⟩:=jD hz;obtain⟨z1,z2,z3⟩:=vH (X:=X) (w:=w) (h:=h) hzc len;cases hf:nU (fun i=>some (i*z.length,z.length)) (List.replicate len z).flatten (ps.toList.map fun(i,x)=>(i,cEu x))with
 |none=>simp[hf]at e
 |some cells=>
 simp only[hf]at e;split at e;case isFalse=>cases e
 cases e;rw[← bQw (G:=G) (env:=env) hc]at hf;obtain⟨p1,p2⟩:=H6 g r ps;obtain⟨vout,f1,f2,f3,f4,f5⟩:=P3 (fun i=>some (i*z.length,z.length)) _ _ _ _ cells p1 p2 z1 z2 z3 hf;have hvs:vout.size=len*z.length:=by rw[f5];simp
 obtain⟨X',w',hrun,rr,g',t⟩:=aOj (P:=P) g el (cells:=cells.map deE) (n:=len) (cap:=len) (by rw[dP];omega) f3 (fun j x u h1 h2=>by
  rw[eV,dG]at h1;obtain⟨y,hy,rfl⟩:=h1;exact bWr (f4 j y u hy h2)) (bK _)
 unfold execOp;simp only[ho];refine⟨X',w',_,_,?_,.inl rfl,rr,g',t⟩;have hnb:¬(len*z.length>2^24):=by omega
 have f1':Instr.fill (fun i=>some (i*z.length,z.length)) ((Array.range (len*z.length)).map (zv.cells[· % zv.cells.size]!)) (ps.map fun x=>(x.1,a.eval x.2)).toList=some vout:=f1;have h0:¬len*z.length=0:=Nat.ne_of_gt (Nat.mul_pos hlen hz0);simp only[Instr.buildSlice,cD,run_underlying hu,bO,gL hsz,if_neg hnb,eE,if_neg h0,rU hi hiz,f1',hrun]
theorem bEp{X:Ctx}{w:World}{h:List AObj}{a:Act}(o:Oper){T:TypeId}(ho:o.op=.makeMap T Option.none)(g:GH G X w h):vG G X w h ((execOp a.eval o).run P w) (.mapv [] []) h:=by
 have hp:=iD.alloc w (.map #[] 0);have hgr:=hp.grew;have e:Ext X w h ⟨fun b=>X.F b∨b=w.heap.size,X.ι⟩ (w.alloc (.map #[] 0)) h:=
  ⟨fun _ f=>.inl f,fun b hb=>hp.old (g.fbnd b hb),fun b s hs=>by rw[nL (hp.old (rT hs))];exact hs,fun id o ho=>⟨o,ho,.inr ⟨AObj.like_refl _,.inl rfl⟩⟩⟩
 unfold execOp;simp only[ho];refine⟨⟨fun b=>X.F b∨b=w.heap.size,X.ι⟩,w.alloc (.map #[] 0),_,.map (some w.heap.size),by simp[Instr.makeMap],.inl rfl,?_,⟨?_,g.dom,g.inj,?_,?_,fun k a hk=>(g.gl k a hk).mono e⟩,⟨⟨hgr.size,hgr.os,hgr.tape,hgr.output,fun b hb _=>hp.old hb,fun id b o hb=>.inr ⟨id,o,hb⟩,?_⟩,e,fun _ _ h _=>h⟩⟩
 ·exact .mapv (b:=w.heap.size) (.inr rfl) hp.at rfl rfl (by simp) (by simp) (by simp) (by simp)
 ·intro id ob hob;refine(g.objs id ob hob).mono e rfl (fun b o hb=>hp.old (g.bnd _ _ _ hb)) (fun b o hb f=>?_);rcases f with f|f
  ·exact f
  ·have:=g.bnd _ _ _ hb;omega
 ·intro id b o hb;exact fS (g.bnd _ _ _ hb) hgr.size
 ·intro b hb;rcases hb with f|f
  ·exact fS (g.fbnd b f) hgr.size
  ·rw[f];have:=hp.size;show w.heap.size<(w.alloc (.map #[] 0)).heap.size;omega
 ·intro b hb;rcases hb with f|f
  ·exact .inl f
  ·exact .inr (.inl (by omega))
theorem Q8{X:Ctx}{w:World}{h:List AObj}{env:List AV}{a:Act}{K:AV→List AObj→Prop}{next:Act→World→Prop}{Q:Exit→Act→World→Prop}(o:Oper)(g:GH G X w h)(r:EnvOK G.ds X w h env a)(e:fY P G dr o.op K env h)
 (hn:∀x h' a' w' X',K x h'→GH G X' w' h'→EnvOK G.ds X' w' h' (iV env o.dst x) a'→Tr X w h X' w' h'→next a' w')
 (hp:dr=false→∀v h' a' w' X',G.pan v env h'→GH G X' w' h'→EnvOK G.ds X' w' h' env a'→Tr X w h X' w' h'→Q (.panic [{v:=v,recovered:=false}]) a' w'):o.wp P a w next Q:=by
 have plain:F9 (aop P G env h o.op) K→o.wp P a w next Q:=by
  intro e;obtain⟨x,h',hK,hres⟩:=bOd g r e;exact lE r hres (fun a' w' X' g' r' t=>hn x h' a' w' X' hK g' r' t)
 cases ho:o.op with
 |call c=>
  rw[ho]at e;unfold fY at e;simp only at e;cases hc:c.callee with
  |builtin b=>
   by_cases hb:b=.append
   ·subst hb;obtain⟨x,h',hK,hres⟩:=aRo o c ho hc g r e;exact lE r hres (fun a' w' X' g' r' t=>hn x h' a' w' X' hK g' r' t)
   ·refine plain ?_;unfold nR at e;rw[ho];simp only[aop,hc];rw[hc]at e;cases b<;>first|exact e|exact absurd rfl hb
  |value fx=>
   unfold nR at e;rw[hc]at e;simp only at e;have rf:=jG g r fx;cases hf:aev G env fx with
   |fn f first capt=>
    rw[hf]at e rf;simp only at e;obtain⟨first',capt',hv,l1,l2,r1,r2⟩:=aZh rf;obtain⟨m1,m2⟩:=aVy g r c.args;unfold Oper.wp;have hrun:iC P f=true→(execOp a.eval o).run P w=.ok (.enter f (first'++c.args.map a.eval++capt')) w:=fun hcl=>by
     unfold execOp;simp only[ho];simp[resolve,hc,hv,Deferred.ofValue,invoke,qE hcl]
    rcases aJd e with e|⟨hdr,e⟩
    ·rw[hrun e.1];refine(e.2 X w (first'++c.args.map a.eval++capt') g (by simp[l1,l2]) (wE (by simp[l1]) (wE l1 r1 m2) r2)).mono ?_;rintro e' w' ⟨v,x,h',X',rfl,hK,g',rx,t⟩;exact hn x h' _ w' X' hK g' ((r.mono t.ext).put _ rx) t
    ·rw[hrun e.1];refine(e.2 X w (first'++c.args.map a.eval++capt') g (by simp[l1,l2]) (wE (by simp[l1]) (wE l1 r1 m2) r2)).mono ?_;rintro e' w' ⟨v,h',X',rfl,hK,g',t⟩;exact hp hdr v h' _ w' X' hK g' (r.mono t.ext) t
   |_=>rw[hf]at e;exact e.elim
  |invoke _ _=>unfold nR at e;rw[hc]at e;exact e.elim
 |mapUpdate T m k x=>
  obtain⟨x,h',hK,hres⟩:=aPa o T m k x ho g r e;exact lE r hres (fun a' w' X' g' r' t=>hn x h' a' w' X' hK g' r' t)
 |range T x=>
  obtain⟨x,h',hK,hres⟩:=aUe o T x ho g r e;exact lE r hres (fun a' w' X' g' r' t=>hn x h' a' w' X' hK g' r' t)
 |entry x=>
  obtain⟨x,h',hK,hres⟩:=aXv o x ho g r e;exact lE r hres (fun a' w' X' g' r' t=>hn x h' a' w' X' hK g' r' t)
 |next x b=>
  cases b with
  |true=>
   obtain⟨x,h',hK,hres⟩:=aVq o x ho g r e;exact lE r hres (fun a' w' X' g' r' t=>hn x h' a' w' X' hK g' r' t)
  |false=>
   obtain⟨x,h',hK,hres⟩:=bEk o x ho g r e;exact lE r hres (fun a' w' X' g' r' t=>hn x h' a' w' X' hK g' r' t)
 |makeMap T r=>
  cases r with
  |none=>
   rw[ho]at e;unfold fY at e;cases dr with
   |true=>exact lE r (bEp o ho g) (fun a' w' X' g' r' t=>hn _ h a' w' X' e g' r' t)
   |false=>exact plain (by rw[ho];exact e)
  |some x=>exact plain (by rw[ho]at e ⊢;exact e)
 |buildSlice T len ps=>
  rw[ho]at e;unfold fY at e;simp only at e;by_cases hc:(dr&&aQy ps.toList)=true
  ·rw[if_pos hc]at e;cases hv:bBl P T len ps with
   |none=>rw[hv]at e;exact e.elim
   |some v=>
    rw[hv]at e;simp only[aA]at hc;exact lE r (bMn o ho g r hc.2 hv) (fun a' w' X' g' r' t=>hn v h a' w' X' e g' r' t)
  ·rw[if_neg hc]at e;exact plain (by rw[ho];exact e)
 |panic x =>
  rw[ho]at e;unfold fY at e;simp only at e;have rx:=jG g r x;cases dr with
  |true=>exact e.elim
  |false =>
   cases hx:aev G env x with
   |p v =>
    rw[hx]at e rx;cases v with
    |iface T v=>
     have hv:a.eval x=.iface T v:=by
      generalize a.eval x=u at rx;cases rx with
      |p _ _=>rfl
      |dead hr _ _=>simp[AV.refs]at hr
     unfold Oper.wp;have hrun:(execOp a.eval o).run P w=.halt (.panic (.iface T v)) w:=by
      unfold execOp;simp only[ho,hv];simp[Instr.panic,goPanic]
     rw[hrun];exact hp rfl _ h a w X e g r (.refl _ _ _)
    |_=>exact e.elim
   |_=>rw[hx]at e;exact e.elim
 |_=>exact plain (by rw[ho]at e ⊢;exact e)
theorem L3(w:World)(d:Nat){T el:TypeId}(hT:P.underlying T=some (.slice el))(ad:Option Addr)(n c:Nat):(Op.equalIn (d+1) T (.slice ad n c) (.slice Option.none 0 0)).run P w=.ok ad.isNone w:=by
 unfold Op.equalIn;rw[cD,run_underlying hT];cases ad<;>rfl
theorem bOt{X:Ctx}{w:World}{h:List AObj}{env:List AV}{a:Act}{K:AV→List AObj→Prop}(o:Oper)(T:TypeId)(x:Operand)(U:TypeId)(ho:o.op=.binOp .eql T x (.const (.slice Option.none 0 0)) U)(g:GH G X w h)(r:EnvOK G.ds X w h env a)
 (e:bJi P T (aev G env x) (fun r=>K r h)):∃x h',K x h'∧vG G X w h ((execOp a.eval o).run P w) x h':=by
 unfold bJi at e;split at e;case h_2=>exact e.elim
 rename_i el hT;have rx:=jG g r x;have hexec:∀(ad:Option Addr) (n c:Nat),a.eval x=.slice ad n c→(execOp a.eval o).run P w=.ok (.value (.bool ad.isNone)) w:=by
  intro ad n c hx;have hy:a.eval (.const (.slice Option.none 0 0))=.slice Option.none 0 0:=rfl;have h1:=L3 (P:=P) w 9999 hT ad n c;have h2:(binOp .eql T (.slice ad n c) (.slice Option.none 0 0)).run P w=.ok (.bool ad.isNone) w:=by
   simp only[binOp,Op.equal,Op.maxDepth];simp[h1]
  have h3:(eqGuard .eql T x (.const (.slice Option.none 0 0)) (.slice ad n c) (.slice Option.none 0 0)).run P w=.ok () w:=by simp[eqGuard]
  unfold execOp;simp only[ho,hx,hy];simp[h2,h3]
 have fin:∀b:Bool,(execOp a.eval o).run P w=.ok (.value (.bool b)) w→K (.b b) h→∃x h',K x h'∧vG G X w h ((execOp a.eval o).run P w) x h':=
  fun b hb hk=>⟨.b b,h,hk,.pure g hb (.b b)⟩
 cases hx:aev G env x with
 |e0=>
  rw[hx]at e rx;generalize hv:a.eval x=v at rx;cases rx with
  |e0 ad=>
   have:=hexec ad 0 0 hv;cases ad with
   |none=>exact fin true this e.1
   |some _=>exact fin false this e.2
  |dead hr _ _=>simp[AV.refs]at hr
 |sl cells n=>
  rw[hx]at e rx;generalize hv:a.eval x=v at rx;cases rx with
  |sl0 ad c=>
   have:=hexec ad 0 c hv;cases ad with
   |none=>exact fin true this (e.1 rfl)
   |some _=>exact fin false this e.2
  |sl=>exact fin false (hexec _ _ _ hv) e.2
  |dead hr _ _=>simp[AV.refs]at hr
 |_=>rw[hx]at e;exact e.elim
theorem aDl{N:DR}{op:Op}{K:AV→List AObj→Prop}{env:List AV}{h:List AObj}:pS P G (some N) op K env h=fY P G true op K env h:=by
 unfold pS;cases fU op<;>cases rJ P (aev G env) op<;>rfl
theorem bRq{X:Ctx}{w:World}{h:List AObj}{env:List AV}{a:Act}{K:AV→List AObj→Prop}{sz:Nat}{cells:List AV}(o:Oper)(g:GH G X w h)(r:EnvOK G.ds X w h env a)(ha:rJ P (aev G env) o.op=some (sz,cells))
 (e:K (.ptr h.length 0) (h++[.arr false sz cells])):∃x h',K x h'∧vG G X w h ((execOp a.eval o).run P w) x h':=by
 have ar:∀{cs:Array Value} (T:TypeId),cs.size=cells.length→kF cs→(∀(j:Nat) (x:AV) (u:Value),cells[j]? = some x→cs[j]? = some u→RV X w h x u) →
  ∃X' w',(newRow T cs).run P w=.ok ⟨w.heap.size,0,Option.none⟩ w'∧RV X' w' (h++[.arr false sz cells]) (.ptr h.length 0) (.pointer (some ⟨w.heap.size,0,Option.none⟩))∧GH G X' w' (h++[.arr false sz cells])∧Tr X w h X' w' (h++[.arr false sz cells]):=by
  intro cs T hl h1 hr;have hp:=iD.alloc w (.cells cs T (0,0));obtain⟨g',t⟩:=qP g hp _ ((nB g hp cells (by omega) (fun j v _ hv=>h1 j v hv) hr).2 h1 sz);refine⟨_,_,rfl,?_,g',t⟩;have:=RV.ptr (X:=X.upd h.length (some (w.heap.size,0))) (w:=w.alloc (.cells cs T (0,0))) (h:=h++[.arr false sz cells]) (id:=h.length) (off:=0) (ob:=.arr false sz cells) (b:=w.heap.size) (o:=0) (by simp) (by simp) (Ctx.upd_same _ _ _);simpa using this
 cases ho:o.op with
 |alloc T=>
  rw[ho]at ha;simp only[rJ]at ha;cases hs:lU P T with
  |none=>simp[hs]at ha
  |some s=>
   cases hz:zeroOf P T with
   |none=>simp[hs,hz]at ha
   |some c=>
    simp only[hs,hz,dO,aB,bH]at ha;obtain⟨rfl,rfl⟩:=ha;obtain⟨i,zv,hi,hiz,hzc⟩:=jD hz;obtain⟨h1,h2,h3⟩:=kS (X:=X) (w:=w) (h:=h) hzc;obtain⟨X',w',hrun,rr,g',t⟩:=ar T h1 h2 h3;refine⟨_,_,e,X',w',_,_,?_,.inl rfl,rr,g',t⟩;unfold execOp;simp[ho,Instr.alloc,rU hi hiz,newVar,hrun]
 |box T y=>
  rw[ho]at ha;simp only[rJ]at ha;cases hs:lU P T with
  |none=>simp[hs]at ha
  |some s=>
   cases hc:kY (aev G env y)with
   |none=>simp[hs,hc]at ha
   |some c=>
    simp only[hs,hc,dO,aB,bH]at ha;obtain⟨rfl,rfl⟩:=ha;obtain⟨h1,h2,h3⟩:=(jG g r y).cells hc;obtain⟨X',w',hrun,rr,g',t⟩:=ar T h1 h2 h3;refine⟨_,_,e,X',w',_,_,?_,.inl rfl,rr,g',t⟩;unfold execOp;simp[ho,Instr.box,newVar,hrun]
 |_=>rw[ho]at ha;simp[rJ]at ha
theorem bMu{dr:Option DR}{X:Ctx}{w:World}{h:List AObj}{env:List AV}{a:Act}{K:AV→List AObj→Prop}{next:Act→World→Prop}{Q:Exit→Act→World→Prop}(o:Oper)(g:GH G X w h)(r:EnvOK G.ds X w h env a)(e:pS P G dr o.op K env h)
 (hn:∀x h' a' w' X',K x h'→GH G X' w' h'→EnvOK G.ds X' w' h' (iV env o.dst x) a'→Tr X w h X' w' h'→next a' w')
 (hp:dr=Option.none→∀v h' a' w' X',G.pan v env h'→GH G X' w' h'→EnvOK G.ds X' w' h' env a'→Tr X w h X' w' h'→Q (.panic [{v:=v,recovered:=false}]) a' w'):o.wp P a w next Q:=by
 cases dr with
 |some N=>rw[aDl]at e;exact Q8 o g r e hn (fun h=>by cases h)
 |none=>
  cases hnt:fU o.op with
  |none=>
   unfold pS at e;rw[hnt]at e;simp only at e;cases ha:rJ P (aev G env) o.op with
   |none=>rw[ha]at e;exact Q8 o g r e hn (fun _=>hp rfl)
   |some q=>
    rw[ha]at e;obtain⟨y,h',hK,hres⟩:=bRq o g r ha e;exact lE r hres (fun a' w' X' g' r' t=>hn y h' a' w' X' hK g' r' t)
  |some q=>
   obtain⟨T,x⟩:=q;unfold pS at e;rw[hnt]at e;have hop:∃U,o.op=.binOp .eql T x (.const (.slice Option.none 0 0)) U:=by
    cases ho:o.op with
    |binOp op T' x' y U=>
     rw[ho]at hnt;simp only[fU]at hnt;unfold bSk at hnt;split at hnt
     ·split at hnt
      ·cases hnt;exact⟨U,rfl⟩
      ·cases hnt
     ·cases hnt
    |_=>rw[ho]at hnt;simp[fU]at hnt
   obtain⟨U,hop⟩:=hop;obtain⟨y,h',hK,hres⟩:=bOt o T x U hop g r e;exact lE r hres (fun a' w' X' g' r' t=>hn y h' a' w' X' hK g' r' t)
theorem bIl{dr:Option DR}{ck:Bool}{op:Op}{q:TypeId×Nat×Array (Nat×Operand)}(h:vOp dr ck op=some q):op=.buildSlice q.1 q.2.1 q.2.2∧ck=true∧dr.isSome=true:=by
 unfold vOp at h;split at h
 ·split at h
  ·rename_i hc;cases h;simp only[aA]at hc;exact⟨rfl,hc⟩
  ·cases h
 ·cases h
theorem aSf{dr:Option DR}{ck:Bool}{op:Op}{q:Call×DR}(h:zOp dr ck op=some q):op=.call q.1∧ck=true∧dr=some q.2:=by
 unfold zOp at h;split at h
 ·split at h
  ·cases h;exact⟨rfl,rfl,rfl⟩
  ·cases h
 ·cases h
theorem aTv{dr:Option DR}{ck:Bool}{X:Ctx}{w:World}{h:List AObj}{env:List AV}{a:Act}{K:AV→List AObj→Prop}{next:Act→World→Prop}{Q:Exit→Act→World→Prop}(o:Oper)(g:GH G X w h)(r:EnvOK G.ds X w h env a)(e:aPp P G dr ck o.op K env h)
 (hn:∀x h' a' w' X',K x h'→GH G X' w' h'→EnvOK G.ds X' w' h' (iV env o.dst x) a'→Tr X w h X' w' h'→next a' w')
 (hp:dr=Option.none→∀v h' a' w' X',G.pan v env h'→GH G X' w' h'→EnvOK G.ds X' w' h' env a'→Tr X w h X' w' h'→Q (.panic [{v:=v,recovered:=false}]) a' w'):o.wp P a w next Q:=by
 unfold aPp at e;cases hv:vOp dr ck o.op with
 |none=>
  rw[hv]at e;simp only at e;cases hz:zOp dr ck o.op with
  |none=>rw[hz]at e;exact bMu o g r e hn hp
  |some q=>
   obtain⟨c,N⟩:=q;rw[hz]at e;obtain⟨x,h',hd,_,hK⟩:=e;refine Q8 (G:=G.np) (dr:=false) (K:=fun x1 h1=>x1=x∧h1=h') o g r (by rw[(aSf hz).1];exact hd) ?_ (fun _ _ _ _ _ _ k=>k.elim);rintro x1 h1 a' w' X' ⟨rfl,rfl⟩ g' r' t;exact hn _ _ _ _ _ hK g' r' t
 |some q=>
  obtain⟨T,len,ps⟩:=q;rw[hv]at e;simp only at e;cases ha:aRl P (aev G env) T len ps with
  |none=>rw[ha]at e;exact e.elim
  |some v=>
   rw[ha]at e;exact lE r (aTo o (bIl hv).1 g r ha) (fun a' w' X' g' r' t=>hn v h a' w' X' e g' r' t)
theorem aCv{X:Ctx}{w:World}{h:List AObj}{env:List AV}{a:Act}{ops:Array Oper}{o:Oper}{j d:Nat}{want c:Bool}(r:EnvOK G.ds X w h env a)(hg:o.guard=some (j,want))(hd:((ops[j]?).bind fun x=>x.dst)=some d)
 (hc:T7 (env.getD d .u) want=.b c):Region.wanted o (yielded ops a.tmps)=c:=by
 have hlt:d<env.length:=by
  rcases lK d env.length with h1|h1
  ·exact h1
  ·rw[List.getD,iQ h1]at hc;simp[T7]at hc
 have hlt':d<a.tmps.size:=r.size▸hlt;have hr:=r.rel d (env.getD d .u) a.tmps[d] (by simp[List.getD,hlt]) (by simp[hlt']);cases hx:env.getD d .u with
 |b x=>
  rw[hx]at hr hc;simp only[T7,AV.b.injEq]at hc;have hv:=aJx hr;have hgt:a.tmps[d]? = some (.bool x):=by rw[← hv];simp[hlt']
  have hy:yielded ops a.tmps j=some x:=by simp only[yielded,hd,xP,hgt]
  simp only[Region.wanted,hg,hy];rw[← hc];cases x<;>cases want<;>rfl
 |tup l =>
  rw[hx]at hr hc;cases l with
  |cons=>simp[T7]at hc
  |nil =>
   simp only[T7,AV.b.injEq]at hc;have hv:a.tmps[d]=.tuple #[]:=by
    cases hr':a.tmps[d]with
    |tuple vs=>
     rw[hr']at hr;cases hr with
     |tup h1 h2=>exact congrArg Value.tuple (Array.eq_empty_of_size_eq_zero (by simpa using h1.symm))
     |dead h1=>simp[AV.refs]at h1
    |_=>
     rw[hr']at hr;cases hr with
     |dead h1=>simp[AV.refs]at h1
   have hgt:a.tmps[d]? = some (.tuple #[]):=by rw[← hv];simp[hlt']
   have hy:yielded ops a.tmps j=none:=by simp only[yielded,hd,xP,hgt]
   simp only[Region.wanted,hg,hy];rw[← hc];rfl
 |_=>rw[hx]at hc;simp[T7]at hc
theorem lX{rx:RX}{dr:Option DR}{ops:Array Oper}{Q:Exit→Act→World→Prop}{K:List AV→List AObj→Prop}:∀(l:List Oper) (al:List gA),bY rx ops l=some al→∀(env:List AV) (h:List AObj) (X:Ctx) (w:World) (a:Act),
 dN P G dr al K env h→GH G X w h→EnvOK G.ds X w h env a→(∀a' w',mI G X w h K a' w'→Q .normal a' w')→(dr=Option.none→∀v a' w',mI G X w h (G.pan v) a' w'→Q (.panic [{v:=v,recovered:=false}]) a' w')→wpList P ops Q l a w
 | [],al,hs,env,h,X,w,a,e,g,r,hQ,hP=>by
   simp only[bY,aB]at hs;subst hs;exact hQ a w ⟨env,h,X,e,g,r,.refl _ _ _⟩
 |o :: l,al,hs,env,h,X,w,a,e,g,r,hQ,hP=>by
  simp only[bY]at hs;cases ho:dR rx ops o with
  |none=>simp[ho]at hs
  |some ao=>
  cases hl:bY rx ops l with
  |none=>simp[ho,hl]at hs
  |some al'=>
  simp only[ho,hl,aB]at hs;subst hs;have rest:∀(x:AV) (h':List AObj) (a':Act) (w':World) (X':Ctx),dN P G dr al' K (iV env o.dst x) h'→GH G X' w' h'→EnvOK G.ds X' w' h' (iV env o.dst x) a'→Tr X w h X' w' h'→wpList P ops Q l a' w':=
   fun x h' a' w' X' e' g' r' t=>lX l al' hl _ h' X' w' a' e' g' r' (fun a2 w2 ⟨env2,h2,X2,k1,k2,k3,k4⟩=>hQ a2 w2 ⟨env2,h2,X2,k1,k2,k3,t.trans k4⟩) (fun hd v a2 w2 ⟨env2,h2,X2,k1,k2,k3,k4⟩=>hP hd v a2 w2 ⟨env2,h2,X2,k1,k2,k3,t.trans k4⟩)
  have hp:dr=Option.none→∀v h' a' w' X',G.pan v env h'→GH G X' w' h'→EnvOK G.ds X' w' h' env a'→Tr X w h X' w' h'→Q (.panic [{v:=v,recovered:=false}]) a' w':=fun hd v h' a' w' X' k1 k2 k3 k4=>hP hd v a' w' ⟨env,h',X',k1,k2,k3,k4⟩;unfold dR at ho;cases hg:o.guard with
  |none=>
   simp only[hg,aB]at ho;subst ho;simp only[dN]at e;refine wpList_plain hg (fun K' hK'=>?_);exact aTv o g r e.2 (fun x h' a' w' X' k1 k2 k3 k4=>hK' _ _ (rest x h' a' w' X' k1 k2 k3 k4)) hp
  |some q=>
   obtain⟨j,want⟩:=q;simp only[hg]at ho;cases hd:(ops[j]?).bind (·.dst)with
   |none=>simp[hd]at ho
   |some d=>
    simp only[hd,aB]at ho;subst ho;simp only[dN]at e;cases hx:T7 (env.getD d .u) want with
    |b x=>
     rw[hx]at e;simp only[tH]at e;have hw:=aCv r hg hd hx;refine wpList_step (fun K' hK'=>?_);rw[hw];cases x with
     |true=>
      simp only[if_true];exact aTv o g r (e.1 rfl).2 (fun x h' a' w' X' k1 k2 k3 k4=>hK' _ _ (rest x h' a' w' X' k1 k2 k3 k4)) hp
     |false=>
      simp only[aE,if_false];exact hK' _ _ (rest (.tup []) h _ w X (e.2 rfl) g (r.put _ (.tup (vs := #[]) rfl (by simp))) (.refl _ _ _))
    |_=>rw[hx]at e;exact e.elim
end
inductive DK where
 |c|a|r|w|l
 deriving DecidableEq
def dZ(o:Oper):Bool:=
 match o.op with
 | .alloc _=>o.guard.isNone&&(anyPre o).isEmpty
 |_=>false
def wM(o:Oper):Option DK:=
 match o.op with
 | .move _| .assign _| .pick .. | .binOp .. | .unOp .. | .convert .. | .makeFunc .. | .field .. | .index .. | .extract .. | .build .. => some .c
 | .alloc _=>if dZ o then some .a else some .w
 | .load .. | .nilCheck _| .slice .. | .fieldAddr .. | .indexAddr .. | .lookup .. => some .r
 | .buildSlice _ n ps=>if(n == 0&&ps.toList.isEmpty||aQy ps.toList)&&o.guard.isNone then some .c else some .w
 | .makeMap _ Option.none=>if o.guard.isNone then some .c else Option.none
 | .box .. | .makeSlice .. | .makeMap .. => some .w
 | .store .. | .mapUpdate .. => some .l
 | .call c=>match c.callee with
   | .builtin .len=>some .r
   | .builtin .append=>some .l
   | .value _=>some .w
   |_=>Option.none
 |_=>Option.none
def bUy(op:Op):List Nat:=op.operands.toList.filterMap fun| .tmp t=>some t|_=>Option.none
def cHa(ops:Array Oper)(o:Oper):List Nat:=
 match o.guard with
 |some (j,_)=>((ops[j]?).bind (·.dst)).toList
 |Option.none=>[]
def ouses(ops:Array Oper)(o:Oper):List Nat:=o.dst.toList++(bUy o.op++cHa ops o)
def O4:DK→DK→Bool
 | .w,.w| .w,.l| .l,.w| .l,.l| .r,.l| .l,.r=>false
 |_,_=>true
def aJg(o:Oper):Bool:=sB o||kK o
def dk(rx:RX)(ops:Array Oper)(o:Oper):Option DK:=if vOf rx ops o=true then some .c else if zOf rx o=true then some .l else wM o
theorem aBi{rx:RX}{ops:Array Oper}{o:Oper}{k:DK}(h:dk rx ops o=some k)(hk:k ≠ .c)(hl:k ≠ .l):vOf rx ops o=false∧zOf rx o=false∧wM o=some k:=by
 unfold dk at h;split at h
 ·cases h;exact absurd rfl hk
 ·split at h
  ·cases h;exact absurd rfl hl
  ·rename_i hv hz;exact⟨by simpa using hv,by simpa using hz,h⟩
def aVu(rx:RX)(ops:Array Oper)(q:Oper):Bool:=(aJg q&&ckX rx ops q)||zOf rx q
def T4(rx:RX)(ops:Array Oper)(p q:Oper):Bool:=
 rx.on&&((dk rx ops p == some .r&&ckX rx ops p&&aVu rx ops q)||(dk rx ops q == some .r&&ckX rx ops q&&aVu rx ops p))
def indepOK(rx:RX)(ops:Array Oper)(p q:Oper):Bool:=
 p.dst.all (fun d => !(ouses ops q).contains d)&&q.dst.all (fun d => !(ouses ops p).contains d) &&
  ((match dk rx ops p,dk rx ops q with
  |some a,some b=>O4 a b
  |_,_=>false)||((dk rx ops p).isSome&&(dk rx ops q).isSome&&T4 rx ops p q))
section
variable {P:Program} {G:Md}
def DOp(P:Program)(G:Md)(op:Op)(env:List AV)(h:List AObj)(x:AV)(h':List AObj):Prop:=fY P G true op (fun x1 h1=>x1=x∧h1=h') env h
theorem yL{q:Option (AV×List AObj)}{K:AV→List AObj→Prop}:F9 q K↔∃x h',F9 q (fun x1 h1=>x1=x∧h1=h')∧K x h':=by
 cases q with
 |none=>simp[F9]
 |some q=>obtain⟨x,h'⟩:=q;exact⟨fun hK=>⟨x,h',⟨rfl,rfl⟩,hK⟩,fun⟨x',h'',⟨e1,e2⟩,hK⟩=>by subst e1;subst e2;exact hK⟩
theorem bHh{op:Op}{K:AV→List AObj→Prop}{env:List AV}{h:List AObj}:fY P G true op K env h↔∃x h',DOp P G op env h x h'∧K x h':=by
 unfold DOp;cases op with
 |call c=>
  simp only[fY,nR];cases c.callee with
  |builtin b=>
   cases b<;>first
    |exact yL
    |skip
   simp only;split
   ·split
    ·split<;>exact yL
    ·split
     ·exact yL
     ·simp
   ·simp
  |value f=>
   simp only;cases aev G env f<;>simp only[G5,if_true,false_and,exists_const,exists_false];exact⟨fun⟨r,s,k⟩=>⟨_,_,⟨r,s,rfl,rfl⟩,k⟩,fun⟨x,h',⟨r,s,e1,e2⟩,k⟩=>⟨r,s,by rw[e1,e2];exact k⟩⟩
  |invoke _ _=>simp
 |mapUpdate T m k x=>
  simp only[fY];split
  ·cases gP P h T (aev G env m) (aev G env k) (aev G env x)with
   |none=>simp
   |some h'=>exact⟨fun hK=>⟨_,_,⟨rfl,rfl⟩,hK⟩,fun⟨x',h'',⟨e1,e2⟩,hK⟩=>by subst e1;subst e2;exact hK⟩
  ·cases gP P (freeze (eH dep h (aev G env x)) h) T (aev G env m) (aev G env k) (gZ dep h (aev G env x))with
   |none=>simp
   |some h'=>exact⟨fun hK=>⟨_,_,⟨rfl,rfl⟩,hK⟩,fun⟨x',h'',⟨e1,e2⟩,hK⟩=>by subst e1;subst e2;exact hK⟩
 |range T x=>simp[fY]
 |entry x=>simp[fY]
 |panic x=>simp[fY]
 |makeMap T r=>cases r with
  |none=>simp only[fY,if_true];exact⟨fun k=>⟨_,_,⟨rfl,rfl⟩,k⟩,fun⟨_,_,⟨e1,e2⟩,k⟩=>by subst e1;subst e2;exact k⟩
  |some _=>simp only[fY];exact yL
 |next x b=>cases b with
  |true=>simp[fY]
  |false=>simp[fY]
 |_=>simp only[fY];exact yL
theorem oJ{env env':List AV}{xs:Array Operand}(he:∀o∈xs.toList,aev G env o=aev G env' o):xs.toList.map (aev G env)=xs.toList.map (aev G env'):=iP he
theorem rV{env env':List AV}{o:Option Operand}(he:∀x∈o.toArray.toList,aev G env x=aev G env' x):o.map (aev G env)=o.map (aev G env'):=by
 cases o with
 |none=>rfl
 |some x=>simp only[dO,aB];exact he x (by simp)
theorem Z5{op:Op}{K:AV→List AObj→Prop}{env env':List AV}{h:List AObj}(he:∀o∈op.operands.toList,aev G env o=aev G env' o)(e:fY P G true op K env h):fY P G true op K env' h:=by
 have one:∀o,o∈op.operands.toList→aev G env' o=aev G env o:=fun o ho=>(he o ho).symm;cases op with
 |call c=>
  simp only[fY,nR]at e ⊢;have hargs:c.args.toList.map (aev G env')=c.args.toList.map (aev G env):=(oJ (fun o ho=>he o (by simp only[Op.operands,Call.operands];cases c.callee<;>simp<;>simp at ho<;>(first|exact ho|exact .inr ho)))).symm;rw[hargs];cases hc:c.callee with
  |builtin b=>rw[hc]at e;cases b<;>exact e
  |value f=>
   rw[hc]at e;simp only at e ⊢;rw[one f (by simp[Op.operands,Call.operands,hc])];exact e
  |invoke _ _=>rw[hc]at e;exact e
 |mapUpdate T m k x=>
  simp only[fY]at e ⊢;rw[one m (by simp[Op.operands]),one k (by simp[Op.operands]),one x (by simp[Op.operands])];exact e
 |move x=>simp only[fY,aop]at e ⊢;rw[one x (by simp[Op.operands])];exact e
 |assign x=>simp only[fY,aop]at e ⊢;rw[one x (by simp[Op.operands])];exact e
 |pick c a b=>simp only[fY,aop]at e ⊢;rw[one c (by simp[Op.operands]),one a (by simp[Op.operands]),one b (by simp[Op.operands])];exact e
 |alloc T=>exact e
 |box T x=>simp only[fY,aop]at e ⊢;rw[one x (by simp[Op.operands])];exact e
 |build T ps=>
  simp only[fY,aop]at e ⊢;have:(ps.toList.map fun(i,x)=>(i,aev G env' x))=ps.toList.map fun(i,x)=>(i,aev G env x):=by
   apply iP;rintro⟨i,x⟩ hp;simp only;rw[one x (by simp only[Op.operands];simp;exact⟨i,by simpa using hp⟩)]
  rw[this];exact e
 |buildSlice T n ps=>
  simp only[fY,aop]at e ⊢;have:(ps.toList.map fun(i,x)=>(i,aev G env' x))=ps.toList.map fun(i,x)=>(i,aev G env x):=by
   apply iP;rintro⟨i,x⟩ hp;simp only;rw[one x (by simp only[Op.operands];simp;exact⟨i,by simpa using hp⟩)]
  rw[this];exact e
 |load T x=>simp only[fY,aop]at e ⊢;rw[one x (by simp[Op.operands])];exact e
 |store T x y=>simp only[fY,aop]at e ⊢;rw[one x (by simp[Op.operands]),one y (by simp[Op.operands])];exact e
 |nilCheck x=>simp only[fY,aop]at e ⊢;rw[one x (by simp[Op.operands])];exact e
 |binOp op T x y U=>simp only[fY,aop]at e ⊢;rw[one x (by simp[Op.operands]),one y (by simp[Op.operands])];exact e
 |unOp op T x=>simp only[fY,aop]at e ⊢;rw[one x (by simp[Op.operands])];exact e
 |convert S T x=>simp only[fY,aop]at e ⊢;rw[one x (by simp[Op.operands])];exact e
 |makeFunc fn a b=>
  cases fn with
  |func f=>
   simp only[fY,aop]at e ⊢;have h1:a.toList.map (aev G env')=a.toList.map (aev G env):=(oJ (fun o ho=>he o (by simp only[Op.operands];simp;simp at ho;exact .inl ho))).symm;have h2:b.toList.map (aev G env')=b.toList.map (aev G env):=(oJ (fun o ho=>he o (by simp only[Op.operands];simp;simp at ho;exact .inr ho))).symm;rw[h1,h2];exact e
  |_=>exact e
 |makeMap T r=>cases r<;>exact e
 |makeSlice T l c=>simp only[fY,aop]at e ⊢;rw[one l (by simp[Op.operands]),one c (by simp[Op.operands])];exact e
 |slice T x l hi m=>
  simp only[fY,aop]at e ⊢;have h1:l.map (aev G env')=l.map (aev G env):=(rV (fun o ho=>he o (by simp only[Op.operands];simp at ho ⊢;simp[ho]))).symm;have h2:hi.map (aev G env')=hi.map (aev G env):=(rV (fun o ho=>he o (by simp only[Op.operands];simp at ho ⊢;simp[ho]))).symm;have h3:m.map (aev G env')=m.map (aev G env):=(rV (fun o ho=>he o (by simp only[Op.operands];simp at ho ⊢;simp[ho]))).symm;rw[h1,h2,h3,one x (by simp[Op.operands])];exact e
 |fieldAddr S x f=>simp only[fY,aop]at e ⊢;rw[one x (by simp[Op.operands])];exact e
 |field T x f=>simp only[fY,aop]at e ⊢;rw[one x (by simp[Op.operands])];exact e
 |indexAddr T x i=>simp only[fY,aop]at e ⊢;rw[one x (by simp[Op.operands]),one i (by simp[Op.operands])];exact e
 |index T x i=>simp only[fY,aop]at e ⊢;rw[one x (by simp[Op.operands]),one i (by simp[Op.operands])];exact e
 |lookup T m k ok=>simp only[fY,aop]at e ⊢;rw[one m (by simp[Op.operands]),one k (by simp[Op.operands])];exact e
 |extract x i=>simp only[fY,aop]at e ⊢;rw[one x (by simp[Op.operands])];exact e
 |range T x=>simp[fY]at e
 |entry x=>simp[fY]at e
 |panic x=>simp[fY]at e
 |makeInterface T x=>simp only[fY,aop]at e ⊢;rw[one x (by simp[Op.operands])];exact e
 |next x b=>cases b with
  |true=>simp[fY]at e
  |false=>simp[fY]at e
 |_=>simp only[fY,aop,F9]at e
def vD(h h':List AObj)(a:AV):Prop:=∀id,a.refs=some id→h[id]? = Option.none∨(h[id]?).map AObj.strip=(h'[id]?).map AObj.strip
theorem kW{h h':List AObj}{id:Nat}{ob:AObj}(s:h[id]? = Option.none∨(h[id]?).map AObj.strip=(h'[id]?).map AObj.strip)(e:h[id]? = some ob):∃ob',h'[id]? = some ob'∧ob.strip=ob'.strip:=by
 rcases s with s|s
 ·rw[e]at s;cases s
 ·rw[e]at s;cases h2:h'[id]? with
  |none=>simp[h2]at s
  |some ob'=>simp[h2]at s;exact⟨ob',rfl,s⟩
theorem yD{ob ob':AObj}{fz:Bool}{c:List AV}(e:ob.strip=ob'.strip)(h:ob=.box fz c):∃fz',ob'=.box fz' c:=by
 subst h;cases ob'<;>simp[AObj.strip]at e;exact⟨_,by rw[e]⟩
theorem nN{ob ob':AObj}{fz:Bool}{s:Nat}{c:List AV}(e:ob.strip=ob'.strip)(h:ob=.arr fz s c):∃fz',ob'=.arr fz' s c:=by
 subst h;cases ob'<;>simp[AObj.strip]at e;exact⟨_,by rw[e.1,e.2]⟩
theorem V3{ob ob':AObj}{m:Bool}{q:Option (Nat×Obj)→Prop}(e:ob.strip=ob'.strip)(h:ob=.held m q):ob'=.held m q:=by
 subst h;cases ob'<;>simp[AObj.strip]at e;rw[e.1,e.2]
theorem aDd{ob ob':AObj}{fz:Bool}{k v:List AV}(e:ob.strip=ob'.strip)(h:ob=.map fz k v):∃fz',ob'=.map fz' k v:=by
 subst h;cases ob'<;>simp[AObj.strip]at e;exact⟨_,by rw[e.1,e.2]⟩
theorem bAk{h h':List AObj}{a:AV}{q:List AV×Nat}(s:vD h h' a)(e:aOm h a=some q):aOm h' a=some q:=by
 cases a with
 |ptr id off=>
  simp only[aOm]at e ⊢;cases ho:h[id]? with
  |none=>simp[ho]at e
  |some ob=>
   obtain⟨ob',h1,h2⟩:=kW (s id rfl) ho;cases ob with
   |box fz c=>obtain⟨fz',rfl⟩:=yD h2 rfl;simpa[ho,h1]using e
   |arr fz n c=>obtain⟨fz',rfl⟩:=nN h2 rfl;simpa[ho,h1]using e
   |_=>simp[ho]at e
 |box cells off=>exact e
 |_=>simp[aOm]at e
theorem aRq{h h':List AObj}{T:TypeId}{a x:AV}(s:vD h h' a)(e:zX P T h a=some x):zX P T h' a=some x:=by
 unfold zX at e ⊢;cases ho:aOm h a with
 |none=>simp[ho]at e
 |some q=>rw[ho]at e;rw[bAk s ho];exact e
theorem aKa{h h':List AObj}{T:TypeId}{x y:AV}{lo hi mx:Option AV}(s:vD h h' x)(e:sY P h T x lo hi mx=some y):sY P h' T x lo hi mx=some y:=by
 cases x with
 |hs id off n t=>
  unfold sY at e ⊢;split at e
  ·cases e
  rename_i hc;rw[if_neg hc];cases hu:P.underlying T with
  |none=>simp[hu]at e
  |some d=>
   rw[hu]at e;cases d with
   |slice el=>
    simp only at e ⊢;cases hs:lP P el with
    |none=>simp[hs]at e
    |some sz=>
     simp only[hs]at e ⊢;cases ho:h[id]? with
     |none=>simp[ho]at e
     |some ob=>
      obtain⟨ob',h1,h2⟩:=kW (s id rfl) ho;cases ob with
      |arr fz k c=>obtain⟨fz',rfl⟩:=nN h2 rfl;simp only[ho]at e;simp only[h1];exact e
      |_=>simp[ho]at e
   |_=>exact e
 |ptr id off=>
  unfold sY at e ⊢;split at e
  ·cases e
  rename_i hc;rw[if_neg hc];cases hu:P.underlying T with
  |none=>simp[hu]at e
  |some d=>
   rw[hu]at e;cases d with
   |array len el=>
    simp only at e ⊢;split at e;case h_2=>cases e
    split at e;case h_2=>cases e
    rename_i he;cases he;split at e;case h_2=>cases e
    rename_i ho;obtain⟨ob',h1,h2⟩:=kW (s id rfl) ho;obtain⟨fz',rfl⟩:=nN h2 rfl;simp only[h1];exact e
   |_=>exact e
 |_=>exact e
theorem R8{h h':List AObj}{T:TypeId}{x i y:AV}(s:vD h h' x)(e:kE P h T x i=some y):kE P h' T x i=some y:=by
 unfold kE at e ⊢;cases i with
 |i k n =>
  simp only at e ⊢;cases hu:P.underlying T with
  |none=>simp[hu]at e
  |some d=>
   rw[hu]at e;cases d with
   |slice el=>
    simp only at e ⊢;cases hs:lP P el with
    |none=>simp[hs]at e
    |some sz=>
     simp only[hs]at e ⊢;cases x with
     |hs id off len t=>
      simp only at e ⊢;cases ho:h[id]? with
      |none=>simp[ho]at e
      |some ob=>
       obtain⟨ob',h1,h2⟩:=kW (s id rfl) ho;cases ob with
       |arr fz k c=>obtain⟨fz',rfl⟩:=nN h2 rfl;simp only[ho]at e;simp only[h1];exact e
       |_=>simp[ho]at e
     |_=>exact e
   |array len el=>
    simp only at e ⊢;cases hs:lP P el with
    |none=>simp[hs]at e
    |some sz=>
     simp only[hs]at e ⊢;split at e;case isFalse=>cases e
     rename_i hc;rw[if_pos hc];cases x with
     |ptr id off=>
      simp only at e ⊢;cases ho:h[id]? with
      |none=>simp[ho]at e
      |some ob=>
       obtain⟨ob',h1,h2⟩:=kW (s id rfl) ho;cases ob with
       |arr fz k c=>obtain⟨fz',rfl⟩:=nN h2 rfl;simp only[ho]at e;simp only[h1];exact e
       |box fz c=>obtain⟨fz',rfl⟩:=yD h2 rfl;simp only[ho]at e;simp only[h1];exact e
       |_=>simp[ho]at e
     |_=>exact e
   |_=>exact e
 |_=>exact e
theorem aKc{h h':List AObj}{a:AV}{q:List AV×List AV}(s:vD h h' a)(e:rH h a=some q):rH h' a=some q:=by
 cases a with
 |mp id=>
  simp only[rH]at e ⊢;cases ho:h[id]? with
  |none=>simp[ho]at e
  |some ob=>
   obtain⟨ob',h1,h2⟩:=kW (s id rfl) ho;cases ob with
   |map fz k v=>obtain⟨fz',rfl⟩:=aDd h2 rfl;simpa[ho,h1]using e
   |_=>simp[ho]at e
 |p v=>cases v with
  |map m=>cases m<;>exact e
  |_=>exact e
 |_=>exact e
theorem aGx{h h':List AObj}{T:TypeId}{m k x:AV}{ok:Bool}(s:vD h h' m)(e:pO P h T m k ok=some x):pO P h' T m k ok=some x:=by
 unfold pO at e ⊢;cases hu:P.underlying T with
 |none=>simp[hu]at e
 |some d=>
  rw[hu]at e;cases d with
  |map K E=>
   simp only at e ⊢;split at e;case isFalse=>cases e
   rename_i hk;rw[if_pos hk];cases hm:rH h m with
   |none=>simp[hm]at e
   |some q=>rw[hm]at e;rw[aKc s hm];exact e
  |_=>exact e
theorem bAt{h h':List AObj}{T:TypeId}{a:AV}{n:Nat}(s:vD h h' a)(e:bAu P h T a=some n):bAu P h' T a=some n:=by
 unfold bAu at e ⊢;cases hu:P.underlying T with
 |none=>simp[hu]at e
 |some d=>
  rw[hu]at e;cases d with
  |string=>exact e
  |slice el=>
   cases a with
   |hs id off k t=>
    simp only at e ⊢;cases ho:h[id]? with
    |none=>simp[ho]at e
    |some ob=>
     obtain⟨ob',h1,h2⟩:=kW (s id rfl) ho;cases ob with
     |arr fz k c=>obtain⟨fz',rfl⟩:=nN h2 rfl;simp only[ho]at e;simp only[h1];exact e
     |_=>simp[ho]at e
   |_=>exact e
  |map K E=>
   cases a with
   |mp id=>
    simp only at e ⊢;cases ho:h[id]? with
    |none=>simp[ho]at e
    |some ob=>
     obtain⟨ob',h1,h2⟩:=kW (s id rfl) ho;cases ob with
     |map fz k v=>obtain⟨fz',rfl⟩:=aDd h2 rfl;simp only[ho]at e;simp only[h1];exact e
     |_=>simp[ho]at e
   |p v=>cases v with
    |map m=>cases m<;>exact e
    |_=>exact e
   |_=>exact e
  |_=>exact e
def rOp:Op→Bool
 | .move _| .assign _| .pick .. | .load .. | .nilCheck _| .binOp .. | .unOp .. | .convert .. | .makeFunc .. | .slice .. | .fieldAddr .. | .field .. | .indexAddr .. | .index .. | .lookup .. | .extract .. | .build .. => true
 | .call c=>match c.callee with| .builtin .len=>true|_=>false
 |_=>false
theorem aDq{op:Op}(hk:rOp op=true){env:List AV}{h hh:List AObj}{x:AV}(e:DOp P G op env h x hh) :
 hh=h∧∀h',(∀o∈op.operands.toList,vD h h' (aev G env o))→DOp P G op env h' x h':=by
 unfold DOp at e ⊢;have fin:∀{q:List AObj→Option AV},F9 (match q h with|some v=>some (v,h)|Option.none=>Option.none) (fun x1 h1=>x1=x∧h1=hh) →
  (∀h',(∀o∈op.operands.toList,vD h h' (aev G env o))→∀v,q h=some v→q h'=some v) →
  hh=h∧∀h',(∀o∈op.operands.toList,vD h h' (aev G env o))→F9 (match q h' with|some v=>some (v,h')|Option.none=>Option.none) (fun x1 h1=>x1=x∧h1=h'):=by
  intro q e hq;cases hv:q h with
  |none=>rw[hv]at e;exact e.elim
  |some v=>
   rw[hv]at e;obtain⟨e1,e2⟩:=e;refine⟨e2.symm,fun h' hs=>?_⟩;rw[hq h' hs v hv];exact⟨e1,rfl⟩
 have const:∀{q:Option AV},F9 (match q with|some v=>some (v,h)|Option.none=>Option.none) (fun x1 h1=>x1=x∧h1=hh) →
  hh=h∧∀h',(∀o∈op.operands.toList,vD h h' (aev G env o))→F9 (match q with|some v=>some (v,h')|Option.none=>Option.none) (fun x1 h1=>x1=x∧h1=h'):=by
  intro q e;cases q with
  |none=>exact e.elim
  |some v=>exact⟨e.2.symm,fun h' _=>⟨e.1,rfl⟩⟩
 cases op with
 |move y=>exact⟨e.2.symm,fun h' _=>⟨e.1,rfl⟩⟩
 |assign y=>exact⟨e.2.symm,fun h' _=>⟨e.1,rfl⟩⟩
 |pick c y z=>
  simp only[fY,aop]at e ⊢;cases hc:aev G env c with
  |b t=>rw[hc]at e;exact⟨e.2.symm,fun h' _=>⟨e.1,rfl⟩⟩
  |_=>rw[hc]at e;exact e.elim
 |load T y=>
  simp only[fY,aop]at e ⊢;exact fin (q:=fun h=>zX P T h (aev G env y)) e (fun h' hs v hv=>aRq (hs y (by simp[Op.operands])) hv)
 |nilCheck y=>
  simp only[fY,aop]at e ⊢;cases hy:aev G env y with
  |ptr id off=>
   rw[hy]at e;simp only at e ⊢;cases ho:h[id]? with
   |none=>rw[ho]at e;exact e.elim
   |some ob=>
    rw[ho]at e;cases ob with
    |box fz c=>
     refine⟨e.2.symm,fun h' hs=>?_⟩;obtain⟨ob',h1,h2⟩:=kW (hs y (by simp[Op.operands]) id (by rw[hy];rfl)) ho;obtain⟨fz',rfl⟩:=yD h2 rfl;rw[h1];exact⟨e.1,rfl⟩
    |arr fz k c=>
     refine⟨e.2.symm,fun h' hs=>?_⟩;obtain⟨ob',h1,h2⟩:=kW (hs y (by simp[Op.operands]) id (by rw[hy];rfl)) ho;obtain⟨fz',rfl⟩:=nN h2 rfl;rw[h1];exact⟨e.1,rfl⟩
    |held m q=>
     cases m with
     |true=>exact e.elim
     |false=>
      refine⟨e.2.symm,fun h' hs=>?_⟩;obtain⟨ob',h1,h2⟩:=kW (hs y (by simp[Op.operands]) id (by rw[hy];rfl)) ho;obtain rfl:=V3 h2 rfl;rw[h1];exact⟨e.1,rfl⟩
    |_=>exact e.elim
  |box c off=>rw[hy]at e;exact⟨e.2.symm,fun h' _=>⟨e.1,rfl⟩⟩
  |fn f a b=>rw[hy]at e;exact⟨e.2.symm,fun h' _=>⟨e.1,rfl⟩⟩
  |_=>rw[hy]at e;exact e.elim
 |binOp op T y z U=>simp only[fY,aop]at e ⊢;exact const e
 |unOp op T y=>simp only[fY,aop]at e ⊢;exact const e
 |convert S T y=>simp only[fY,aop]at e ⊢;exact const e
 |makeFunc fn a b=>
  cases fn with
  |func f=>exact⟨e.2.symm,fun h' _=>⟨e.1,rfl⟩⟩
  |_=>exact e.elim
 |slice T y l hi m=>
  simp only[fY,aop]at e ⊢;exact fin (q:=fun h=>sY P h T (aev G env y) (l.map (aev G env)) (hi.map (aev G env)) (m.map (aev G env))) e (fun h' hs v hv=>aKa (hs y (by simp[Op.operands])) hv)
 |fieldAddr S y f=>
  simp only[fY,aop]at e ⊢;cases hf:lV P S f with
  |none=>rw[hf]at e;exact e.elim
  |some q=>
   obtain⟨fo,ft⟩:=q;rw[hf]at e;simp only at e ⊢;cases hsz:lP P ft with
   |none=>rw[hsz]at e;exact e.elim
   |some n=>
    rw[hsz]at e;cases n with
    |zero=>exact e.elim
    |succ n=>
     simp only at e ⊢;cases hy:aev G env y with
     |ptr id off=>
      rw[hy]at e;simp only at e ⊢;cases ho:h[id]? with
      |none=>rw[ho]at e;exact e.elim
      |some ob=>
       rw[ho]at e;cases ob with
       |box fz c=>
        refine⟨e.2.symm,fun h' hs=>?_⟩;obtain⟨ob',h1,h2⟩:=kW (hs y (by simp[Op.operands]) id (by rw[hy];rfl)) ho;obtain⟨fz',rfl⟩:=yD h2 rfl;rw[h1];exact⟨e.1,rfl⟩
       |arr fz k c=>
        refine⟨e.2.symm,fun h' hs=>?_⟩;obtain⟨ob',h1,h2⟩:=kW (hs y (by simp[Op.operands]) id (by rw[hy];rfl)) ho;obtain⟨fz',rfl⟩:=nN h2 rfl;rw[h1];exact⟨e.1,rfl⟩
       |held m q=>
        cases m with
        |true=>exact e.elim
        |false=>
         refine⟨e.2.symm,fun h' hs=>?_⟩;obtain⟨ob',h1,h2⟩:=kW (hs y (by simp[Op.operands]) id (by rw[hy];rfl)) ho;obtain rfl:=V3 h2 rfl;rw[h1];exact⟨e.1,rfl⟩
       |_=>exact e.elim
     |box c off=>rw[hy]at e;exact⟨e.2.symm,fun h' _=>⟨e.1,rfl⟩⟩
     |_=>rw[hy]at e;exact e.elim
 |field T y f=>
  simp only[fY,aop]at e ⊢;cases hy:aev G env y with
  |agg cs=>
   rw[hy]at e;cases hf:lV P T f with
   |none=>rw[hf]at e;exact e.elim
   |some q=>rw[hf]at e;exact const e
  |_=>rw[hy]at e;exact e.elim
 |indexAddr T y i=>
  simp only[fY,aop]at e ⊢;exact fin (q:=fun h=>kE P h T (aev G env y) (aev G env i)) e (fun h' hs v hv=>R8 (hs y (by simp[Op.operands])) hv)
 |index T y i=>simp only[fY,aop]at e ⊢;exact const e
 |lookup T m k ok=>
  simp only[fY,aop]at e ⊢;exact fin (q:=fun h=>pO P h T (aev G env m) (aev G env k) ok) e (fun h' hs v hv=>aGx (hs m (by simp[Op.operands])) hv)
 |extract y i=>
  simp only[fY,aop]at e ⊢;cases hy:aev G env y with
  |tup vs=>rw[hy]at e;exact const e
  |_=>rw[hy]at e;exact e.elim
 |build T ps=>
  simp only[fY,aop]at e ⊢;cases hp:jP P T with
  |none=>rw[hp]at e;exact e.elim
  |some pl=>
   cases hz:zeroOf P T with
   |none=>rw[hp,hz]at e;exact e.elim
   |some z=>
    rw[hp,hz]at e;simp only at e ⊢;cases hf:nU (fun i=>pl[i]?) z (ps.toList.map fun(i,x)=>(i,aev G env x))with
    |none=>rw[hf]at e;exact e.elim
    |some cs=>rw[hf]at e;exact⟨e.2.symm,fun h' _=>⟨e.1,rfl⟩⟩
 |call c=>
  simp only[rOp]at hk;cases hc:c.callee with
  |builtin b =>
   rw[hc]at hk;cases b<;>simp at hk;simp only[fY,nR,hc,jZ]at e ⊢;cases hty:c.argTypes.toList with
   |nil=>rw[hty]at e;exact e.elim
   |cons T ts=>
    cases ts with
    |cons=>rw[hty]at e;exact e.elim
    |nil =>
     cases hl:c.args.toList with
     |nil=>rw[hty,hl]at e;exact e.elim
     |cons y l=>
      cases l with
      |cons=>rw[hty,hl]at e;exact e.elim
      |nil=>
       rw[hty,hl]at e;simp only[aK,aZ]at e ⊢;cases ha:bAu P h T (aev G env y)with
       |none=>rw[ha]at e;exact e.elim
       |some n=>
        rw[ha]at e;refine⟨e.2.symm,fun h' hs=>?_⟩;rw[bAt (hs y (by simp[Op.operands,Call.operands,hc,hl])) ha];exact⟨e.1,rfl⟩
  |_=>rw[hc]at hk;simp at hk
 |_=>simp[rOp]at hk
end
def cFq(ops:List Oper):List (List Nat):=
 ops.foldl (fun acc o=>acc++[(List.range acc.length).filter fun k=>(anyPre o).contains k||(anyPre o).any fun e=>(acc.getD e []).contains k]) []
def P8(rx:RX)(ops:Array Oper)(bs:List (List Nat))(i:Nat)(p:Oper):Bool:=
 (dk rx ops p).isSome&&((anyPre p).all (fun e=>decide (e<i))&&(bs.getD i []).all (fun k=>(anyPre p).contains k||(anyPre p).any fun e=>(bs.getD e []).contains k))
def aBj(rx:RX)(ops:Array Oper)(bs:List (List Nat))(i j:Nat)(p q:Oper):Bool:=
 i == j||(p.dst.all (fun d=>q.dst != some d)&&((bs.getD j []).contains i||((bs.getD i []).contains j||indepOK rx ops p q)))
def aYi(rx:RX)(ops:Array Oper)(bs:List (List Nat)):Bool:=
 (List.range ops.size).all fun i=>match ops[i]? with
  |Option.none=>true
  |some p=>P8 rx ops bs i p&&(List.range ops.size).all fun j=>match ops[j]? with
   |Option.none=>true
   |some q=>aBj rx ops bs i j p q
def uQ(rx:RX)(ops:Array Oper):Bool:=aYi rx ops (cFq ops.toList)
def fT(ops:Array Oper):List Oper:=ops.toList.filter dZ++ops.toList.filter fun o => !dZ o
structure DOK(rx:RX)(ops:Array Oper)(B:Nat→Nat→Prop):Prop where
 kind:∀(i:Nat) (o:Oper),ops[i]? = some o→(dk rx ops o).isSome=true
 lt:∀(i:Nat) (o:Oper),ops[i]? = some o→∀e,e∈anyPre o→e<i
 clo:∀(i:Nat) (o:Oper),ops[i]? = some o→∀k,B k i→k∈anyPre o∨∃e,e∈anyPre o∧B k e
 dst:∀(i j:Nat) (p q:Oper),ops[i]? = some p→ops[j]? = some q→i≠j→∀d,p.dst=some d→q.dst≠some d
 ind:∀(i j:Nat) (p q:Oper),ops[i]? = some p→ops[j]? = some q→i≠j→B i j∨B j i∨indepOK rx ops p q=true
theorem aYf{rx:RX}{ops:Array Oper}(h:uQ rx ops=true):DOK rx ops (fun k i=>k∈(cFq ops.toList).getD i []):=by
 generalize hb:cFq ops.toList=bs;have h:aYi rx ops bs=true:=by rw[← hb];exact h
 unfold aYi at h;rw[bF]at h;have h1:∀i p,ops[i]? = some p→P8 rx ops bs i p=true∧∀j q,ops[j]? = some q→aBj rx ops bs i j p q=true:=by
  intro i p hp;have hi:i<ops.size:=(aY.1 hp).1;have:=h i (fE.2 hi);simp only[hp,aA,bF]at this;refine⟨this.1,fun j q hq=>?_⟩;have h2:=this.2 j (fE.2 (aY.1 hq).1);simp only[hq]at h2;exact h2
 refine⟨?_,?_,?_,?_,?_⟩
 ·intro i o ho;have:=(h1 i o ho).1;simp only[P8,aA]at this;exact this.1
 ·intro i o ho e he;have:=(h1 i o ho).1;simp only[P8,aA,bF]at this;exact of_decide_eq_true (this.2.1 e he)
 ·intro i o ho k hk;have:=(h1 i o ho).1;simp only[P8,aA,bF]at this;have:=this.2.2 k hk;simpa using this
 ·intro i j p q hp hq hne d hd;have:=(h1 i p hp).2 j q hq;simp only[aBj,cC,beq_iff_eq,hne,false_or,aA]at this;have:=this.1;rw[hd]at this;simpa using this
 ·intro i j p q hp hq hne;have:=(h1 i p hp).2 j q hq;simp only[aBj,cC,beq_iff_eq,hne,false_or,aA]at this;simpa using this.2
section
variable {rx:RX} {ops:Array Oper} {B:Nat→Nat→Prop}
theorem DOK.blt(D:DOK rx ops B):∀(i:Nat) (o:Oper),ops[i]? = some o→∀k,B k i→k<i:=by
 intro i;induction i using Nat.strongRecOn with
 |ind i ih=>
  intro o ho k hk;rcases D.clo i o ho k hk with h|⟨e,he,hb⟩
  ·exact D.lt i o ho k h
  ·have hlt:=D.lt i o ho e he;have hi:i<ops.size:=(aY.1 ho).1;have:=ih e hlt ops[e] (by simp) k hb;omega
def Closed(ops:Array Oper)(S:Nat→Prop):Prop:=∀(i:Nat) (o:Oper),S i→ops[i]? = some o→∀e,e∈anyPre o→S e
theorem DOK.before(D:DOK rx ops B){S:Nat→Prop}(cl:Closed ops S):∀(i:Nat) (o:Oper),ops[i]? = some o→(∀e,e∈anyPre o→S e)→∀k,B k i→S k:=by
 intro i;induction i using Nat.strongRecOn with
 |ind i ih=>
  intro o ho hpre k hk;rcases D.clo i o ho k hk with h|⟨e,he,hb⟩
  ·exact hpre k h
  ·have hlt:=D.lt i o ho e he;have hi:i<ops.size:=(aY.1 ho).1;exact ih e hlt ops[e] (by simp) (cl e ops[e] (hpre e he) (by simp)) k hb
theorem rB{p q:Oper}(h:indepOK rx ops p q=true):(∀d,p.dst=some d→d∉ouses ops q)∧(∀d,q.dst=some d→d∉ouses ops p)∧∃a b,dk rx ops p=some a∧dk rx ops q=some b∧(O4 a b=true∨T4 rx ops p q=true):=by
 unfold indepOK at h;simp only[aA]at h;obtain⟨⟨h1,h2⟩,h3⟩:=h;refine⟨?_,?_,?_⟩
 ·intro d hd;rw[hd]at h1;simpa using h1
 ·intro d hd;rw[hd]at h2;simpa using h2
 ·cases ha:dk rx ops p with
  |none=>rw[ha]at h3;simp at h3
  |some a=>
   cases hb:dk rx ops q with
   |none=>rw[ha,hb]at h3;simp at h3
   |some b=>
    rw[ha,hb]at h3;simp only[cC,I8,aI]at h3;exact⟨a,b,rfl,rfl,h3⟩
def oN(ops:Array Oper)(i:Nat):Option Nat:=(ops[i]?).bind (·.dst)
def C3(ops:Array Oper)(x:Nat→AV)(L:List Nat)(env:List AV):List AV:=L.foldl (fun e i=>iV e (oN ops i) (x i)) env
theorem DOK.one(D:DOK rx ops B){i j d:Nat}(hi:oN ops i=some d)(hj:oN ops j=some d):i=j:=by
 by_cases h:i=j
 ·exact h
 ·exfalso;unfold oN at hi hj;cases hp:ops[i]? with
  |none=>rw[hp]at hi;cases hi
  |some p=>
   cases hq:ops[j]? with
   |none=>rw[hq]at hj;cases hj
   |some q=>
    rw[hp]at hi;rw[hq]at hj;exact D.dst i j p q hp hq h d hi hj
def EnvIs(ops:Array Oper)(x:Nat→AV)(env:List AV)(S:Nat→Prop)(e:List AV):Prop:=
 e.length=env.length∧∀t,(∃i,S i∧oN ops i=some t∧t<env.length∧e.getD t .u=x i)∨((∀i,S i→oN ops i=some t→env.length≤t)∧e.getD t .u=env.getD t .u)
variable {x:Nat→AV} {env:List AV}
theorem EnvIs.congr{S S':Nat→Prop}{e:List AV}(h:EnvIs ops x env S e)(hs:∀i,S i↔S' i):EnvIs ops x env S' e:=by
 have:S=S':=funext fun i=>propext (hs i);exact this▸h
theorem EnvIs.agree(D:DOK rx ops B){S S':Nat→Prop}{e e':List AV}(h:EnvIs ops x env S e)(h':EnvIs ops x env S' e')(t:Nat)(ha:∀i,oN ops i=some t→(S i↔S' i)):e.getD t .u=e'.getD t .u:=by
 rcases h.2 t with⟨i,s,hd,hl,hx⟩|⟨hn,hx⟩
 ·rcases h'.2 t with⟨i',s',hd',hl',hx'⟩|⟨hn',hx'⟩
  ·have:=D.one hd hd';subst this;rw[hx,hx']
  ·have:=hn' i ((ha i hd).1 s) hd;omega
 ·rcases h'.2 t with⟨i',s',hd',hl',hx'⟩|⟨hn',hx'⟩
  ·have:=hn i' ((ha i' hd').2 s') hd';omega
  ·rw[hx,hx']
theorem EnvIs.unique(D:DOK rx ops B){S:Nat→Prop}{e e':List AV}(h:EnvIs ops x env S e)(h':EnvIs ops x env S e'):e=e':=by
 apply List.ext_getElem (h.1.trans h'.1.symm);intro t h1 h2;have:=h.agree D h' t (fun i _=>Iff.rfl);simpa[List.getD,h1,h2]using this
theorem EnvIs.start:EnvIs ops x env (fun _=>False) env:=⟨rfl,fun t=>.inr ⟨fun i h=>h.elim,rfl⟩⟩
theorem EnvIs.step(D:DOK rx ops B){S:Nat→Prop}{e:List AV}(h:EnvIs ops x env S e)(i:Nat):EnvIs ops x env (fun k=>S k∨k=i) (iV e (oN ops i) (x i)):=by
 cases hd:oN ops i with
 |none=>
  refine⟨h.1,fun t=>?_⟩;rcases h.2 t with⟨k,s,hk,hl,hx⟩|⟨hn,hx⟩
  ·exact .inl ⟨k,.inl s,hk,hl,hx⟩
  ·refine .inr ⟨?_,hx⟩;rintro k (s|rfl) hk
   ·exact hn k s hk
   ·rw[hd]at hk;cases hk
 |some d=>
  refine⟨by simp[iV,h.1],fun t=>?_⟩;by_cases ht:d=t
  ·subst ht;by_cases hl:d<env.length
   ·exact .inl ⟨i,.inr rfl,hd,hl,by simp[iV,List.getD,h.1,hl]⟩
   ·refine .inr ⟨fun k _ _=>by omega,?_⟩;simp[iV,List.getD,iQ (Nat.le_of_not_lt hl),iQ (l:=e.set d (x i)) (i:=d) (by simp[h.1];omega)]
  ·have hg:(iV e (some d) (x i)).getD t .u=e.getD t .u:=by simp[iV,List.getD,dW ht]
   rw[hg];rcases h.2 t with⟨k,s,hk,hl,hx⟩|⟨hn,hx⟩
   ·exact .inl ⟨k,.inl s,hk,hl,hx⟩
   ·refine .inr ⟨?_,hx⟩;rintro k (s|rfl) hk
    ·exact hn k s hk
    ·rw[hd]at hk;cases hk;exact absurd rfl ht
theorem EnvIs.many(D:DOK rx ops B):∀(L:List Nat) {S:Nat→Prop} {e:List AV},EnvIs ops x env S e→EnvIs ops x env (fun k=>S k∨k∈L) (C3 ops x L e)
 | [],S,e,h=>h.congr (fun i=>by simp)
 |i::L,S,e,h=>by
  have:=EnvIs.many D L (h.step D i);exact this.congr (fun k=>by simp[or_assoc])
theorem aNi(D:DOK rx ops B)(L:List Nat):EnvIs ops x env (fun k=>k∈L) (C3 ops x L env):=(EnvIs.many D L EnvIs.start).congr (fun k=>by simp)
end
section
variable {P:Program} {G:Md} {rx:RX} {N:DR} {ops:Array Oper}
inductive OM where
 |n
 |v
 |z
def omOf(rx:RX)(ops:Array Oper)(o:Oper):OM:=if vOf rx ops o=true then .v else if zOf rx o=true then .z else .n
def DOc(P:Program)(G:Md)(N:DR)(m:OM)(op:Op)(env:List AV)(h:List AObj)(x:AV)(h':List AObj):Prop:=
 match m with
 | .v=>(∃T len ps,op=.buildSlice T len ps∧aRl P (aev G env) T len ps=some x)∧h'=h
 | .z=>(∃f as ts,op=.call ⟨.value f,as,ts⟩)∧fY P G.np false op (fun x1 h1=>x1=x∧h1=h') env h∧nK N h h'
 | .n=>DOp P G op env h x h'
theorem bVb{o:Oper}(h1:vOf rx ops o=false)(h2:zOf rx o=false):omOf rx ops o=.n:=by simp[omOf,h1,h2]
theorem aKx{o:Oper}(h:vOf rx ops o=true):∃T len ps,o.op=.buildSlice T len ps∧o.guard=Option.none:=by
 unfold vOf xI at h;simp only[aA]at h;have h2:=h.2;split at h2
 ·rename_i T len ps ho;rw[aA,Option.isNone_iff_eq_none]at h2;exact⟨T,len,ps,ho,h2.1⟩
 ·cases h2
theorem cAb{o:Oper}{N:DR}:((vOp (some N) (ckF rx ops o) o.op).isSome=true)↔vOf rx ops o=true:=by
 constructor
 ·intro h;unfold vOp at h;split at h
  ·rename_i T len ps ho;have hk:ckF rx ops o=true:=by
    cases hc:ckF rx ops o with
    |true=>rfl
    |false=>rw[hc]at h;simp at h
   unfold ckF at hk;have h1:ckX rx ops o=false:=by unfold ckX aNu aJf;rw[ho];simp
   have h2:zOf rx o=false:=by unfold zOf;rw[ho]
   rw[h1,h2]at hk;simpa using hk
  ·cases h
 ·intro h;obtain⟨T,len,ps,ho,_⟩:=aKx h;have hk:ckF rx ops o=true:=by unfold ckF;rw[h];simp
  rw[ho,hk];rfl
theorem aCs{o:Oper}(h:zOf rx o=true):∃f as ts,o.op=.call ⟨.value f,as,ts⟩:=by
 unfold zOf at h;split at h
 ·rename_i f as ts ho;exact⟨f,as,ts,ho⟩
 ·cases h
theorem cAa{o:Oper}{N:DR}:((zOp (some N) (ckF rx ops o) o.op).isSome=true)↔zOf rx o=true:=by
 constructor
 ·intro h;unfold zOp at h;split at h
  ·rename_i f as ts ho;have hk:ckF rx ops o=true:=by
    cases hc:ckF rx ops o with
    |true=>rfl
    |false=>rw[hc]at h;simp at h
   unfold ckF at hk;have h1:ckX rx ops o=false:=by unfold ckX aNu aJf;rw[ho];simp
   have h2:vOf rx ops o=false:=by unfold vOf xI;rw[ho];simp
   rw[h1,h2]at hk;simpa using hk
  ·cases h
 ·intro h;obtain⟨f,as,ts,ho⟩:=aCs h;have hk:ckF rx ops o=true:=by unfold ckF;rw[h];simp
  rw[ho,hk];rfl
theorem aLj{o:Oper}{N:DR}{K:AV→List AObj→Prop}{env:List AV}{h:List AObj}(e:aPp P G (some N) (ckF rx ops o) o.op K env h):∃x h',DOc P G N (omOf rx ops o) o.op env h x h'∧K x h':=by
 unfold aPp at e;cases hv:vOp (some N) (ckF rx ops o) o.op with
 |none=>
  rw[hv]at e;have hf:vOf rx ops o=false:=by
   cases hq:vOf rx ops o with
   |false=>rfl
   |true=>have:=(cAb (N:=N)).2 hq;rw[hv]at this;cases this
  simp only at e;cases hz:zOp (some N) (ckF rx ops o) o.op with
  |none=>
   rw[hz]at e;have hf2:zOf rx o=false:=by
    cases hq:zOf rx o with
    |false=>rfl
    |true=>have:=(cAa (ops:=ops) (N:=N)).2 hq;rw[hz]at this;cases this
   rw[bVb hf hf2];exact bHh.1 (aDl▸e)
  |some q=>
   obtain⟨c,N'⟩:=q;rw[hz]at e;have ht:zOf rx o=true:=(cAa (ops:=ops) (N:=N)).1 (by rw[hz];rfl);have hm:omOf rx ops o=.z:=by simp[omOf,hf,ht]
   obtain⟨x,h',hd,hg,hK⟩:=e;have hop:=(aSf hz).1;have hN:N=N':=by have:=(aSf hz).2.2;simpa using this
   subst hN;exact⟨x,h',by rw[hm];exact⟨aCs ht,hop▸hd,hg⟩,hK⟩
 |some q=>
  obtain⟨T,len,ps⟩:=q;rw[hv]at e;have ht:vOf rx ops o=true:=(cAb (N:=N)).1 (by rw[hv];rfl);have hm:omOf rx ops o=.v:=by simp[omOf,ht]
  simp only at e;cases ha:aRl P (aev G env) T len ps with
  |none=>rw[ha]at e;exact e.elim
  |some y=>
   rw[ha]at e;exact⟨y,h,by rw[hm];exact⟨⟨T,len,ps,(bIl hv).1,ha⟩,rfl⟩,e⟩
def OpD(P:Program)(G:Md)(N:DR)(rx:RX)(ops:Array Oper)(o:Oper)(env:List AV)(h:List AObj)(x:AV)(h':List AObj):Prop:=
 aRb G (some N) (ckF rx ops o) o.op env∧DOc P G N (omOf rx ops o) o.op env h x h'
def OpAt(P:Program)(G:Md)(N:DR)(rx:RX)(ops:Array Oper)(o:Oper)(env:List AV)(h:List AObj)(x:AV)(h':List AObj):Prop:=
 match o.guard with
 |Option.none=>OpD P G N rx ops o env h x h'
 |some (j,want)=>∃d b,oN ops j=some d∧T7 (env.getD d .u) want=.b b∧(b=true→OpD P G N rx ops o env h x h')∧(b=false→x=.tup []∧h'=h)
theorem xL{x x':Nat→AV}:∀(L:List Nat) (env:List AV),(∀i∈L,x i=x' i)→C3 ops x L env=C3 ops x' L env
 | [],env,h=>rfl
 |i::L,env,h=>by
  simp only[C3,nX];rw[h i (by simp)];exact xL L _ (fun k hk=>h k (by simp[hk]))
theorem bTt{K:List AV→List AObj→Prop}:∀(L:List Nat) (al:List gA) (env:List AV) (h:List AObj),(∀i∈L,i<ops.size)→L.Nodup→bY rx ops (L.filterMap (ops[·]?))=some al→dN P G (some N) al K env h →
 ∃(x:Nat→AV) (hh:Nat→List AObj),hh 0=h∧K (C3 ops x L env) (hh L.length)∧∀(p i:Nat) (o:Oper),L[p]? = some i→ops[i]? = some o→OpAt P G N rx ops o (C3 ops x (L.take p) env) (hh p) (x i) (hh (p+1))
 | [],al,env,h,_,_,hs,e=>by
   simp only[List.filterMap_nil,bY,aB]at hs;subst hs;exact⟨fun _=>.u,fun _=>h,rfl,e,fun p i o hp=>by simp at hp⟩
 |i :: L,al,env,h,hlt,hnd,hs,e=>by
  have hi:i<ops.size:=hlt i (by simp);have ho:ops[i]? = some ops[i]:=by simp[hi]
  rw[mU,ho]at hs;simp only[bY]at hs;cases hso:dR rx ops ops[i]with
  |none=>simp[hso]at hs
  |some ao=>
  cases hl:bY rx ops (L.filterMap (ops[·]?))with
  |none=>simp[hso,hl]at hs
  |some al'=>
  simp only[hso,hl,aB]at hs;subst hs;have hd:ao.dst=oN ops i∧ao.op=ops[i].op∧ao.ck=ckF rx ops ops[i]:=by
   unfold dR at hso;split at hso
   ·cases hso;simp[oN,ho]
   ·split at hso
    ·cases hso;simp[oN,ho]
    ·cases hso
  have key:∃xi hi',dN P G (some N) al' K (iV env (oN ops i) xi) hi'∧OpAt P G N rx ops ops[i] env h xi hi':=by
   simp only[dN]at e;unfold dR at hso;unfold OpAt;cases hg:ops[i].guard with
   |none=>
    simp only[hg,aB]at hso;subst hso;simp only at e;obtain⟨xi,hi',hD,hK⟩:=aLj e.2;exact⟨xi,hi',by simpa[oN,ho]using hK,e.1,hD⟩
   |some q=>
    obtain⟨j,want⟩:=q;simp only[hg]at hso;cases hdj:(ops[j]?).bind (·.dst)with
    |none=>simp[hdj]at hso
    |some d=>
     simp only[hdj,aB]at hso;subst hso;simp only at e;cases hx:T7 (env.getD d .u) want with
     |b b=>
      rw[hx]at e;simp only[tH]at e;cases b with
      |true=>
       obtain⟨xi,hi',hD,hK⟩:=aLj (e.1 rfl).2;exact⟨xi,hi',by simpa[oN,ho]using hK,d,true,hdj,hx,(fun _=>⟨(e.1 rfl).1,hD⟩),(fun hf=>by cases hf)⟩
      |false=>exact⟨.tup [],h,by simpa[oN,ho]using e.2 rfl,d,false,hdj,hx,(fun hf=>by cases hf),(fun _=>⟨rfl,rfl⟩)⟩
     |_=>rw[hx]at e;exact e.elim
  obtain⟨xi,hi',e',hat⟩:=key;have hnd':=kT.1 hnd;obtain⟨x,hh,h0,hK,htr⟩:=bTt L al' _ hi' (fun k hk=>hlt k (by simp[hk])) hnd'.2 hl e';have hx:∀k∈L,x k=(fun k=>if k=i then xi else x k) k:=by
   intro k hk;have:k≠i:=fun he=>hnd'.1 (he▸hk);simp[this]
  refine⟨fun k=>if k=i then xi else x k,fun p=>match p with|0=>h|p+1=>hh p,rfl,?_,?_⟩
  ·simp only[C3,nX,if_true,aQ];have:=xL (ops:=ops) L (iV env (oN ops i) xi) hx;simp only[C3]at this hK;rw[← this];exact hK
  ·intro p k o hp hk;cases p with
   |zero=>
    simp only[bT,aB]at hp;subst hp;rw[ho]at hk;cases hk;simp only[bR,C3,List.foldl_nil,if_true,h0];exact hat
   |succ p=>
    simp only[bZ]at hp;have:=htr p k o hp hk;have hkL:k∈L:=eD hp;have hne:k≠i:=fun he=>hnd'.1 (he▸hkL);simp only[aL,C3,nX,if_true,hne,if_false];have hc:=xL (ops:=ops) (L.take p) (iV env (oN ops i) xi) (fun k hk=>hx k (dH hk));simp only[C3]at hc this;rw[← hc];exact this
end
structure cBe(X:Ctx)(w:World)(h:List AObj)(X':Ctx)(w':World):Prop where
 fr:∀b,X.F b→X'.F b
 keep:∀b,X.F b→w'.heap[b]? = w.heap[b]?
 shp:∀b s,w.shape? b=some s→w'.shape? b=some s
 obj:∀id bo,X.ι id=some bo→X'.ι id=some bo
theorem RV.monoW{X X':Ctx}{w w':World}{h:List AObj}{a:AV}{v:Value}(r:RV X w h a v)(e:cBe X w h X' w'):RV X' w' h a v:=by
 induction r with
 |u v=>exact .u v
 |b x=>exact .b x
 |i k n=>exact .i k n
 |s l=>exact .s l
 |p v hv=>exact .p v hv
 |e0 a=>exact .e0 a
 |sl0 a cap=>exact .sl0 a cap
 |sl hF hb hl hc h1 _ ih=>exact .sl (e.fr _ hF) ((e.keep _ hF).trans hb) hl hc h1 ih
 |hs hid hι hsh hn hc hN ht hf=>exact .hs hid (e.obj _ _ hι) (e.shp _ _ hsh) hn hc hN ht hf
 |hs0 hid hf ho=>exact .hs0 hid hf ho
 |ptr hid hnd hι=>exact .ptr hid hnd (e.obj _ _ hι)
 |mp hid hι=>exact .mp hid (e.obj _ _ hι)
 |dead hr hid hv=>exact .dead hr hid hv
 |box hF hb hl h1 _ ih=>exact .box (e.fr _ hF) ((e.keep _ hF).trans hb) hl h1 ih
 |mapv hF hb hk hv _ _ hbn hbd ihk ihv=>exact .mapv (e.fr _ hF) ((e.keep _ hF).trans hb) hk hv ihk ihv hbn hbd
 |fn h1 h2 _ _ ih1 ih2=>exact .fn h1 h2 ih1 ih2
 |agg h1 h2 _ ih=>exact .agg h1 h2 ih
 |tup h1 _ ih=>exact .tup h1 ih
theorem GRel.monoW{X X':Ctx}{w w':World}{h:List AObj}{k:Nat}{a:AV}(r:GRel X w h k a)(e:cBe X w h X' w'):GRel X' w' h k a:=
 ⟨r.1.monoW e,fun cells off ha=>have ⟨hF,cs,T,fr,h1,h2⟩:=r.2 cells off ha;⟨e.fr _ hF,cs,T,fr,(e.keep _ hF).trans h1,h2⟩⟩
theorem ObjOK.monoW{X X':Ctx}{w w':World}{h:List AObj}{id:Nat}{ob:AObj}(r:ObjOK X w h id ob)(e:cBe X w h X' w')
 (hι:X'.ι id=X.ι id) (hb:∀b o,X.ι id=some (b,o)→w'.heap[b]? = w.heap[b]?) (hF:∀b o,X.ι id=some (b,o)→X'.F b→X.F b):ObjOK X' w' h id ob:=by
 cases r with
 |absent h0 hh=>exact .absent (hι.trans h0) hh
 |away h0 h1=>exact .away (hι.trans h0) h1
 |box h0 h1 h2 h3 h4 h5 h6=>exact .box (hι.trans h0) ((hb _ _ h0).trans h1) (fun f=>e.fr _ (h2 f)) (fun f=>⟨fun g=>(h3 f).1 (hF _ _ h0 g),(h3 f).2⟩) h4 h5 (fun j a v ha hv=>(h6 j a v ha hv).monoW e)
 |arr h0 h1 h2 h3 h4 h5 h6 h7=>exact .arr (hι.trans h0) ((hb _ _ h0).trans h1) (fun f=>e.fr _ (h2 f)) (fun f=>⟨fun g=>(h3 f).1 (hF _ _ h0 g),(h3 f).2⟩) h4 h5 (fun j a v ha hv=>(h6 j a v ha hv).monoW e) h7
 |map h0 h1 h2 h3 h4 h5 h6 h7 h8 h9=>exact .map (hι.trans h0) ((hb _ _ h0).trans h1) (fun f=>e.fr _ (h2 f)) (fun f g=>h3 f (hF _ _ h0 g)) h4 h5 (fun j a v ha hv=>(h6 j a v ha hv).monoW e) (fun j a v ha hv=>(h7 j a v ha hv).monoW e) h8 h9
 |held h0 h1 h2 h3=>exact .held (hι.trans h0) (fun g=>h1 (hF _ _ h0 g)) ((hb _ _ h0).trans h2) h3
 |sit h0 h1 h2=>exact .sit (hι.trans h0) (fun g=>h1 (hF _ _ h0 g)) ((hb _ _ h0).trans h2)
 |mit h0 h1 h2 h3 h4 h5 h6 h7 h8 h9 h10 h11=>exact .mit (hι.trans h0) (fun g=>h1 (hF _ _ h0 g)) ((hb _ _ h0).trans h2) (e.fr _ h3) ((e.keep _ h3).trans h4) h5 h6 h7 h8 (fun j a v ha hv=>(h9 j a v ha hv).monoW e) (fun j a v ha hv=>(h10 j a v ha hv).monoW e) (fun k v hc=>have ⟨e1,a1,a2,a3,a4⟩:=h11 k v hc;⟨e1,a1,a2,a3.monoW e,a4.monoW e⟩)
section
variable {G:Glob} {X:Ctx} {w w':World} {h:List AObj}
theorem bPm(g:GH G X w h){cs:Array Value}{T:TypeId}(p:iD w w' (.cells cs T (0,0))){id:Nat}{cells:List AV}(hid:h[id]? = some (.box false cells))(hι:X.ι id=Option.none)
 (hl:cs.size=cells.length) (h1:kF cs) (hr:∀(j:Nat) (x:AV) (u:Value),cells[j]? = some x→cs[j]? = some u→RV X w h x u) :
 cBe X w h (X.upd id (some (w.heap.size,0))) w'∧GH G (X.upd id (some (w.heap.size,0))) w' h∧Step X w (X.upd id (some (w.heap.size,0))) w':=by
 have pg:=p.grew;have hs:=p.size;have e:cBe X w h (X.upd id (some (w.heap.size,0))) w':=by
  refine⟨fun b hb=>hb,fun b hb=>pg.old _ (g.fbnd b hb),fun b s hs=>?_,fun k bo hk=>?_⟩
  ·rw[nL (pg.old _ (rT hs))];exact hs
  ·have:k≠id:=fun he=>by rw[he,hι]at hk;cases hk
   rw[Ctx.upd_other _ _ this];exact hk
 refine⟨e,⟨?_,?_,?_,?_,?_,fun k a hk=>(g.gl k a hk).monoW e⟩,⟨by omega,p.os,p.tape,p.output,fun b hb _=>pg.old b hb,?_,fun b hb=>.inl hb⟩⟩
 ·intro k ob hk;by_cases hki:k=id
  ·subst hki;rw[hid]at hk;cases hk;refine .box (Ctx.upd_same _ _ _) p.at (fun f=>by cases f) (fun _=>⟨fun hF=>by have:=g.fbnd _ hF;omega,rfl⟩) (by omega) ?_ ?_
   ·intro j v hj hv;exact h1 j v (by simpa using hv)
   ·intro j a v ha hv;exact(hr j a v ha (by simpa using hv)).monoW e
  ·exact(g.objs k ob hk).monoW e (Ctx.upd_other _ _ hki) (fun b o hb=>pg.old _ (g.bnd _ _ _ hb)) (fun _ _ _ f=>f)
 ·intro k b hb;by_cases hki:k=id
  ·subst hki;exact⟨_,hid⟩
  ·rw[Ctx.upd_other _ _ hki]at hb;exact g.dom _ _ hb
 ·intro k k' b c c' h1 h2;by_cases e1:k=id
  ·by_cases e2:k'=id
   ·omega
   ·subst e1;rw[Ctx.upd_same]at h1;rw[Ctx.upd_other _ _ e2]at h2;have:=g.bnd _ _ _ h2;cases h1;omega
  ·rw[Ctx.upd_other _ _ e1]at h1;by_cases e2:k'=id
   ·subst e2;rw[Ctx.upd_same]at h2;have:=g.bnd _ _ _ h1;cases h2;omega
   ·rw[Ctx.upd_other _ _ e2]at h2;exact g.inj _ _ _ _ _ h1 h2
 ·intro k b c h1;by_cases e1:k=id
  ·subst e1;rw[Ctx.upd_same]at h1;cases h1;omega
  ·rw[Ctx.upd_other _ _ e1]at h1;have:=g.bnd _ _ _ h1;omega
 ·intro b hb;have:=g.fbnd b hb;omega
 ·intro k b c h1;by_cases e1:k=id
  ·subst e1;rw[Ctx.upd_same]at h1;cases h1;exact .inl (bK _)
  ·rw[Ctx.upd_other _ _ e1]at h1;exact .inr ⟨k,c,h1⟩
theorem bPl(g:GH G X w h)(obs:List AObj)(hobs:∀ob∈obs,ob.isH=false):GH G X w (h++obs)∧Tr X w h X w (h++obs):=by
 have e:Ext X w h X w (h++obs):=⟨fun _ h=>h,fun _ _=>rfl,fun _ _ h=>h,fun id o ho=>⟨o,by rw[aG (bP ho)];exact ho,.inr ⟨AObj.like_refl o,.inl rfl⟩⟩⟩;refine⟨⟨?_,?_,g.inj,g.bnd,g.fbnd,fun k a hk=>(g.gl k a hk).mono e⟩,⟨.refl _ _,e,fun id z hid _=>by rw[aG (bP hid)];exact hid⟩⟩
 ·intro id ob hid;by_cases hlt:id<h.length
  ·rw[aG hlt]at hid;exact(g.objs id ob hid).mono e rfl (fun _ _ _=>rfl) (fun _ _ _ f=>f)
  ·refine .absent ?_ (hobs ob (by rw[aR (by omega)]at hid;exact eD hid));cases hi:X.ι id with
   |none=>rfl
   |some bo=>obtain⟨ob',ho⟩:=g.dom _ _ hi;exact absurd (bP ho) hlt
 ·intro id bo hb;obtain⟨ob,ho⟩:=g.dom _ _ hb;exact⟨ob,by rw[aG (bP ho)];exact ho⟩
theorem bPk(g:GH G X w h)(hh:w'.heap=w.heap)(ho:w'.os=w.os)(ht:w'.tape=w.tape)(hu:w'.output=w.output):GH G X w' h∧Tr X w h X w' h:=by
 have e:Ext X w h X w' h:=⟨fun _ h=>h,fun _ _=>by rw[hh],fun b s hs=>by rw[nL (w:=w) (by rw[hh])];exact hs,fun id o ho=>⟨o,ho,.inr ⟨AObj.like_refl o,.inl rfl⟩⟩⟩;refine⟨⟨fun id ob hid=>(g.objs id ob hid).mono e rfl (fun _ _ _=>by rw[hh]) (fun _ _ _ f=>f),g.dom,g.inj,fun id b o hb=>by rw[hh];exact g.bnd id b o hb,fun b hb=>by rw[hh];exact g.fbnd b hb,fun k a hk=>(g.gl k a hk).mono e⟩,
  ⟨⟨by rw[hh];exact bK _,ho,ht,hu,fun _ _ _=>by rw[hh],fun id b o hb=>.inr ⟨id,o,hb⟩,fun b hb=>.inl hb⟩,e,fun id z hid _=>hid⟩⟩
end
def J1(h h':List AObj):Prop:=∀(id:Nat) (o:AObj),h[id]? = some o→∃o',h'[id]? = some o'∧o'.strip=o.strip
theorem J1.refl(h:List AObj):J1 h h:=fun id o ho=>⟨o,ho,rfl⟩
theorem J1.trans{a b c:List AObj}(x:J1 a b)(y:J1 b c):J1 a c:=fun id o ho=>by
 obtain⟨o1,h1,e1⟩:=x id o ho;obtain⟨o2,h2,e2⟩:=y id o1 h1;exact⟨o2,h2,e2.trans e1⟩
theorem J1.app(h obs:List AObj):J1 h (h++obs):=fun id o ho=>⟨o,by rw[aG (bP ho)];exact ho,rfl⟩
theorem bCf(o:AObj):o.fz.strip=o.strip:=by cases o<;>rfl
theorem J1.freeze(ids:List Nat)(h:List AObj):J1 h (freeze ids h):=fun id o ho=>by
 rw[nE,ho];refine⟨_,rfl,?_⟩;split
 ·exact bCf o
 ·rfl
mutual
theorem aMj:∀(a:AV) (h:List AObj),J1 h (mat a h).2
 | .own sz cells n,h=>by simp only[mat];exact .app _ _
 | .agg cells,h=>by simp only[mat];exact matL_grow cells h
 | .tup cells,h=>by simp only[mat];exact matL_grow cells h
 | .u,h| .b _,h| .i _ _,h| .s _,h| .p _,h| .e0,h| .sl _ _,h| .hs _ _ _ _,h| .ptr _ _,h| .box _ _,h| .mp _,h| .mapv _ _,h| .fn _ _ _,h=>by simp only[mat];exact .refl _
theorem matL_grow:∀(l:List AV) (h:List AObj),J1 h (matL l h).2
 | [],h=>by simp only[matL];exact .refl _
 |a::l,h=>by simp only[matL];exact(aMj a h).trans (matL_grow l _)
end
theorem aJi(r:AV)(h:List AObj)(A:List AV):J1 h (gU r h A):=by
 unfold gU;split
 ·exact .refl _
 ·exact .freeze _ _
section
variable {P:Program} {G:Md}
theorem aFu{T:TypeId}{env:List AV}{h h':List AObj}{x:AV}(e:DOp P G (.alloc T) env h x h'):∃z,zeroOf P T=some z∧x=.ptr h.length 0∧h'=h++[.box false z]:=by
 unfold DOp at e;simp only[fY,aop]at e;cases hz:zeroOf P T with
 |none=>rw[hz]at e;exact e.elim
 |some z=>rw[hz]at e;exact⟨z,rfl,e.1.symm,e.2.symm⟩
theorem bTe{o:Oper}(hk:wM o=some .w){env:List AV}{h h':List AObj}{x:AV}(e:DOp P G o.op env h x h'):J1 h h':=by
 unfold wM at hk;cases ho:o.op with
 |alloc T=>
  rw[ho]at e;obtain⟨z,_,_,rfl⟩:=aFu e;exact .app _ _
 |box T y=>
  rw[ho]at e;unfold DOp at e;simp only[fY,aop]at e;cases hc:kY (aev G env y)with
  |none=>rw[hc]at e;exact e.elim
  |some c=>rw[hc]at e;rw[← e.2];exact .app _ _
 |buildSlice T n ps=>
  rw[ho]at e;unfold DOp at e;simp only[fY,aop]at e;by_cases hcs:(true&&aQy ps.toList)=true;case pos=>
   rw[if_pos hcs]at e;cases ha:bBl P T n ps with
   |none=>rw[ha]at e;exact e.elim
   |some v=>rw[ha]at e;rw[← e.2];exact .refl _
  rw[if_neg hcs]at e;split at e;case h_2=>exact e.elim
  rename_i el _;split at e;case h_2=>exact e.elim
  rename_i z _;split at e;case isFalse=>exact e.elim
  split at e;case isTrue=>rw[← e.2];exact .refl _
  split at e;case h_2=>exact e.elim
  rw[← e.2];exact .app _ _
 |makeMap T r=>
  rw[ho]at e;unfold DOp at e;cases r with
  |none=>simp only[fY,if_true]at e;rw[← e.2];exact .refl _
  |some _=>exact e.elim
 |makeSlice T l c=>
  rw[ho]at e;unfold DOp at e;simp only[fY,aop]at e;unfold nH at e;split at e;case h_2=>exact e.elim
  split at e;case h_2=>exact e.elim
  split at e;case isFalse=>exact e.elim
  rw[← e.2];exact .app _ _
 |call c=>
  rw[ho]at hk e;simp only at hk;unfold DOp at e;simp only[fY,nR]at e;cases hc:c.callee with
  |builtin b=>rw[hc]at hk;cases b<;>simp at hk
  |value f=>
   rw[hc]at e;simp only at e;cases hf:aev G env f with
   |fn f' first capt=>
    rw[hf]at e;simp only[G5,if_true]at e;obtain⟨r,_,e1,e2⟩:=e;rw[← e2];exact(aJi _ _ _).trans (aMj _ _)
   |_=>rw[hf]at e;exact e.elim
  |invoke _ _=>rw[hc]at hk;simp at hk
 |_=>rw[ho]at hk;simp at hk
theorem aTs{X:Ctx}{w:World}{h:List AObj}{a:AV}{v:Value}(r:RV X w h a v){id:Nat}(e:a.refs=some id):∃o,h[id]? = some o:=by
 cases r with
 |dead hr hid hv=>rw[hr]at e;cases e;exact⟨_,hid⟩
 |_=>first|(simp[AV.refs]at e;done)|(simp only[AV.refs,aB]at e;subst e;exact⟨_,by assumption⟩)
theorem aMq{o:Oper}(hk:wM o=some .r):rOp o.op=true:=by
 unfold wM at hk;unfold rOp;cases ho:o.op with
 |call c=>
  rw[ho]at hk;simp only at hk ⊢;cases hc:c.callee with
  |builtin b=>rw[hc]at hk;cases b<;>simp at hk ⊢
  |value f=>rw[hc]at hk;simp at hk
  |invoke _ _=>rw[hc]at hk;simp at hk
 |alloc T=>rw[ho]at hk;simp only at hk;split at hk<;>simp at hk
 |buildSlice T n ps=>rw[ho]at hk;simp only at hk;split at hk<;>simp at hk
 |makeMap T r=>cases r with
  |none=>rw[ho]at hk;simp only at hk;split at hk<;>simp at hk
  |some _=>rw[ho]at hk;simp at hk
 |_=>first|rfl|(rw[ho]at hk;simp at hk;done)
def pOp:Op→Bool
 | .move _| .assign _| .pick .. | .binOp .. | .unOp .. | .convert .. | .makeFunc .. | .field .. | .index .. | .extract .. | .build .. | .makeMap _ Option.none=>true
 |_=>false
theorem bVr{o:Oper}(hk:wM o=some .c):pOp o.op=true∨(∃T ps,o.op=.buildSlice T 0 ps∧ps.toList=[])∨∃T n ps,o.op=.buildSlice T n ps∧aQy ps.toList=true:=by
 unfold wM at hk;cases ho:o.op with
 |buildSlice T n ps=>
  right;rw[ho]at hk;simp only at hk;split at hk
  ·rename_i h;simp only[aA,cC,beq_iff_eq,List.isEmpty_iff]at h;rcases h.1 with⟨rfl,h2⟩|h2
   ·exact .inl ⟨T,ps,rfl,h2⟩
   ·exact .inr ⟨T,n,ps,rfl,h2⟩
  ·simp at hk
 |call c=>
  rw[ho]at hk;simp only at hk;cases hc:c.callee with
  |builtin b=>rw[hc]at hk;cases b<;>simp at hk
  |value f=>rw[hc]at hk;simp at hk
  |invoke _ _=>rw[hc]at hk;simp at hk
 |alloc T=>rw[ho]at hk;simp only at hk;split at hk<;>simp at hk
 |makeMap T r=>cases r with
  |none=>exact .inl rfl
  |some _=>rw[ho]at hk;simp at hk
 |_=>first|exact .inl rfl|(rw[ho]at hk;simp at hk;done)
theorem qX{A:Option AV}{h hh:List AObj}{x:AV}(e:F9 (match A with|some v=>some (v,h)|Option.none=>Option.none) (fun x1 h1=>x1=x∧h1=hh)):hh=h∧∀h',F9 (match A with|some v=>some (v,h')|Option.none=>Option.none) (fun x1 h1=>x1=x∧h1=h'):=by
 cases A with
 |none=>exact e.elim
 |some v=>exact⟨e.2.symm,fun h'=>⟨e.1,rfl⟩⟩
theorem bNq{o:Oper}(hk:wM o=some .c){env:List AV}{h hh:List AObj}{x:AV}(e:DOp P G o.op env h x hh):hh=h∧∀h',DOp P G o.op env h' x h':=by
 rcases bVr hk with hp|⟨T,ps,ho,hps⟩|⟨T,n,ps,ho,hcs⟩
 ·unfold DOp at e ⊢;cases ho:o.op with
  |move y=>rw[ho]at e;exact⟨e.2.symm,fun h'=>⟨e.1,rfl⟩⟩
  |assign y=>rw[ho]at e;exact⟨e.2.symm,fun h'=>⟨e.1,rfl⟩⟩
  |pick c a b=>
   rw[ho]at e;simp only[fY,aop]at e ⊢;cases hc:aev G env c<;>rw[hc]at e<;>first|exact⟨e.2.symm,fun h'=>⟨e.1,rfl⟩⟩|exact e.elim
  |binOp op T y z U=>rw[ho]at e;exact qX e
  |unOp op T y=>rw[ho]at e;exact qX e
  |convert S T y=>rw[ho]at e;exact qX e
  |makeFunc t a b=>
   rw[ho]at e;cases t with
   |func f=>exact⟨e.2.symm,fun h'=>⟨e.1,rfl⟩⟩
   |_=>exact e.elim
  |field T y f=>
   rw[ho]at e;simp only[fY,aop]at e ⊢;split at e
   ·exact qX e
   ·exact e.elim
  |index T y z=>rw[ho]at e;exact qX e
  |extract y i=>
   rw[ho]at e;simp only[fY,aop]at e ⊢;split at e
   ·exact qX e
   ·exact e.elim
  |build T ps=>
   rw[ho]at e;simp only[fY,aop]at e ⊢;cases h1:jP P T with
   |none=>rw[h1]at e;exact e.elim
   |some pl=>
   cases h2:zeroOf P T with
   |none=>rw[h1,h2]at e;exact e.elim
   |some z=>
    rw[h1,h2]at e;simp only at e ⊢;split at e
    ·exact⟨e.2.symm,fun h'=>⟨e.1,rfl⟩⟩
    ·exact e.elim
  |makeMap T r=>cases r with
   |none=>rw[ho]at e;exact⟨e.2.symm,fun h'=>⟨e.1,rfl⟩⟩
   |some _=>rw[ho]at hp;exact absurd hp (by simp[pOp])
  |_=>rw[ho]at hp;exact absurd hp (by simp[pOp])
 ·rw[ho]at e ⊢
  unfold DOp at e ⊢;have hcf:¬(true&&aQy ps.toList)=true:=by rw[hps];simp[aQy]
  simp only[fY,aop,if_neg hcf]at e ⊢;cases h1:fV P T with
  |none=>rw[h1]at e;exact e.elim
  |some el=>
   rw[h1]at e;simp only at e ⊢;cases h2:zeroOf P el with
   |none=>rw[h2]at e;exact e.elim
   |some z=>
    rw[h2]at e;simp only at e ⊢;split at e;case isFalse=>exact e.elim
    rename_i hc;rw[if_pos ⟨trivial,hps⟩]at e;refine⟨e.2.symm,fun h'=>?_⟩;rw[if_pos hc,if_pos ⟨trivial,hps⟩];exact⟨e.1,rfl⟩
 ·rw[ho]at e ⊢;unfold DOp at e ⊢;have hct:(true&&aQy ps.toList)=true:=by rw[hcs];rfl
  simp only[fY,if_pos hct]at e ⊢;cases ha:bBl P T n ps with
  |none=>rw[ha]at e;exact e.elim
  |some v=>rw[ha]at e;exact⟨e.2.symm,fun h'=>⟨e.1,rfl⟩⟩
theorem bJq{o:Oper}:wM o=some .a↔dZ o=true:=by
 constructor
 ·intro hk;unfold wM at hk;split at hk<;>first|(exfalso;revert hk;simp;done)|skip
  all_goals(revert hk;split<;>simp[*])
 ·intro hf;have hf':=hf;unfold dZ at hf';unfold wM;split at hf'
  ·rename_i T ho;simp only[ho,hf,if_true]
  ·cases hf'
theorem O8{o:Oper}(h:dZ o=true):∃T,o.op=.alloc T∧o.guard=Option.none∧anyPre o=[]:=by
 unfold dZ at h;split at h
 ·rename_i T ho;simp only[aA,Option.isNone_iff_eq_none,List.isEmpty_iff]at h;exact⟨T,ho,h.1,h.2⟩
 ·cases h
end
end Go.Vo
