/-
  The abstract layer, part O: code over abstract states: a predicate by recursion on the code, and that it speaks of the model's run. It speaks of any program; no condition.
-/
import Derived.Test.YtifefbhllfdmlaaGreatDoorVoP82
import Derived.Orders
set_option linter.unusedVariables false
set_option linter.unusedSimpArgs false
set_option linter.constructorNameAsVariable false
namespace Go.Vo

structure fZ where
 dst:Option Nat
 op:Op
 gd:Option (Nat × Bool)
 ck:Bool
 deriving Inhabited

structure DR where
 N:Nat
 L:List Nat
structure TH where
 N:Option Nat
 L:List Nat
 v:Bool
 m:Bool
 split:Bool
 x:List Nat:=[]
 z:List Nat:=[]
instance {n:Nat}:OfNat TH n:=⟨⟨some n,[],false,false,false,[],[]⟩⟩
def bYq (t:Option TH) (n:Nat):DR:=
 match t with
 | some t=>⟨t.N.getD n,t.L⟩
 | Option.none=>⟨n,[]⟩
structure RX where
 on:Bool
 v:Bool
 m:Bool
 x:List Nat
 z:List Nat
def RX.off:RX:=⟨false,false,false,[],[]⟩
def aKy (rx:Bool) (t:Option TH):RX:=
 match t with
 | some t=>⟨rx,t.v,t.m,t.x,t.z⟩
 | Option.none=>⟨rx,false,false,[],[]⟩
def DR.old (M:DR) (id:Nat):Prop:=
 match M.L with
 | []=>id < M.N
 | x::l=>id < M.N∧id ∉ x::l
def DR.mut (M:DR) (id:Nat):Prop:=
 match M.L with
 | []=>M.N≤id
 | x::l=>M.N≤id∨id ∈ x::l
theorem DR.apart {M:DR} {i j:Nat} (a:M.old i) (b:M.mut j):i ≠ j:=by
 unfold DR.old at a
 unfold DR.mut at b
 rintro rfl
 split at a
 · rename_i e; rw [e] at b; simp only at b; omega
 · rename_i e; rw [e] at b; simp only at b
   rcases b with b | b
   · omega
   · exact a.2 b

def AObj.strip:AObj→AObj
 | .box _ c=>.box false c
 | .arr _ s c=>.arr false s c
 | .map _ k v=>.map false k v
 | o=>o
def lS (N:DR) (h h':List AObj):Prop:=∀ (id:Nat) (o:AObj),N.old id→h[id]? = some o→∃ o',h'[id]? = some o'∧o'.strip=o.strip

inductive lT where
 | skip
 | region (ops:List fZ)
 | draw (th:Option TH) (ops:List fZ)
 | seq (a b:lT)
 | cond (c:Operand) (a b:lT)
 | block (id:Nat) (c:lT)
 | loop (c:lT)
 | exit (id:Nat)
 | ret
 deriving Inhabited

def D8 (x:Option (AV × List AObj)) (K:AV→List AObj→Prop):Prop:=
 match x with
 | some (r,h)=>K r h
 | Option.none=>False

def qP (c:AV) (A B:Prop):Prop:=
 match c with
 | .b x=>(x=true→A)∧(x=false→B)
 | _=>False

def yR (a:AV) (want:Bool):AV:=
 match a with
 | .b x=>.b (x == want)
 | .tup []=>.b false
 | _=>.u

def jU (h:List AObj):AV→Bool
 | .hs id _ _ _=>match h[id]? with
   | some (.arr _ _ cells)=>persL cells
   | _=>true
 | a=>pers a

def K5 (P:Program) (G:fS) (dr:Bool) (f:FuncId) (A:List AV) (h:List AObj) (K:AV→List AObj→Prop):Prop:=
 if dr then ∃ r,Ctr P G f (A.map (gH dep h)) r∧K (mat r (gG r h A)).1 (mat r (gG r h A)).2 else ACalls P G f A h K
theorem E8 {P:Program} {G:fS} {dr:Bool} {f:FuncId} {A:List AV} {h:List AObj} {K:AV→List AObj→Prop} (k:K5 P G dr f A h K):ACalls P G f A h K:=by
 cases dr with
 | true=>obtain ⟨r,s,hK⟩:=k; exact ACalls.sem s hK
 | false=>exact k

def lJ (N:DR) (a:AV):Prop:=
 match a.refs with
 | some id=>N.old id
 | Option.none=>True
def yN (N:DR):AV→Prop
 | .e0=>True
 | .hs id _ _ _=>N.mut id
 | .ptr id _=>N.mut id
 | _=>False
def rW (N:DR):List AV→Prop
 | []=>True
 | a::l=>lJ N a∧rW N l
def U3 (G:fS) (N:DR) (op:Op) (env:List AV):Prop:=
 match op with
 | .call c=>match c.callee with
   | .builtin .append=>match c.args.toList.map (aev G env) with
     | [s,_]=>yN N s
     | _=>False
   | .value _=>True
   | _=>rW N (op.operands.toList.map (aev G env))
 | .store _ a _=>yN N (aev G env a)
 | .buildSlice .. => True
 | op=>rW N (op.operands.toList.map (aev G env))
def aMj (G:fS) (dr:Option DR) (ck:Bool) (op:Op) (env:List AV):Prop:=
 match ck,dr with
 | true,some N=>U3 G N op env
 | _,_=>True

def bMs:Operand→Bool
 | .const _=>true
 | _=>false
def aMh (l:List (Nat × Operand)):Bool := !l.isEmpty && l.all fun p=>bMs p.2
def bVy:Operand→AV
 | .const v=>bEi v
 | _=>.u
def bAv (P:Program) (T:TypeId) (len:Nat) (ps:Array (Nat × Operand)):Option AV:=
 match eF P T with
 | some el=>match zeroOf P el with
   | some z=>if kH P el=some z.length∧0 < z.length∧0 < len∧len * z.length≤65536 then
       (match mG (fun i=>some (i * z.length,z.length)) (List.replicate len z).flatten (ps.toList.map fun (i,x)=>(i,bVy x)) with
       | some cells=>if persL cells=true then some (.sl cells len) else Option.none
       | Option.none=>Option.none) else Option.none
   | Option.none=>Option.none
 | Option.none=>Option.none
def aMw (P:Program) (ev:Operand→AV) (T:TypeId) (len:Nat) (ps:Array (Nat × Operand)):Option AV:=
 match eF P T with
 | some el=>match zeroOf P el with
   | some z=>if kH P el=some z.length∧0 < z.length∧0 < len∧len * z.length≤65536 then
       (match mG (fun i=>some (i * z.length,z.length)) (List.replicate len z).flatten (ps.toList.map fun (i,x)=>(i,ev x)) with
       | some cells=>if persL cells=true then some (.sl cells len) else Option.none
       | Option.none=>Option.none) else Option.none
   | Option.none=>Option.none
 | Option.none=>Option.none
theorem bJf {G:fS} {env:List AV} {l:List (Nat × Operand)} (h:aMh l=true):(l.map fun (i,x)=>(i,aev G env x))=l.map fun (i,x)=>(i,bVy x):=by
 simp only [aMh,aA,aN] at h
 apply kW
 rintro ⟨i,x⟩ hp
 have:=h.2 _ hp
 cases x <;> simp [bMs] at this
 rfl
section
variable (P:Program) (G:fS) (dr:Bool)

def nR (env:List AV) (h:List AObj) (c:Call) (K:AV→List AObj→Prop):Prop:=
 match c.callee with
 | .builtin .append=>match c.argTypes.toList,c.args.toList.map (aev G env) with
   | [T,U],[s,x]=>if T=U then (if jU h x then D8 (gA P h T s x) K else D8 (gA P (freeze (dR dep h x) h) T s (gH dep h x)) K) else (match P.underlying U with | some (.int _)=>D8 (pO P h T s x) K | _=>False)
   | _,_=>False
 | .builtin b=>D8 (jF P h b c.argTypes (c.args.toList.map (aev G env))) K
 | .value fx=>match aev G env fx with
   | .fn f first capt=>K5 P G dr f (first++c.args.toList.map (aev G env)++capt) h K
   | _=>False
 | .invoke .. => False

def fG (o:Op) (K:AV→List AObj→Prop) (env:List AV) (h:List AObj):Prop:=
 match o with
 | .call c=>nR P G dr env h c K
 | .mapUpdate T m k x=>if pers (aev G env x) then (match eX P h T (aev G env m) (aev G env k) (aev G env x) with
     | some h'=>K .u h'
     | Option.none=>False)
   else (match eX P (freeze (dR dep h (aev G env x)) h) T (aev G env m) (aev G env k) (gH dep h (aev G env x)) with
     | some h'=>K .u h'
     | Option.none=>False)
 | .range T x=>if dr then False else match P.underlying T,gH dep h (aev G env x) with
   | some (.map _ _),.mapv ks vs=>K (.ptr (freeze (dR dep h (aev G env x)) h).length 0) (freeze (dR dep h (aev G env x)) h++[.mit none ks vs])
   | some .string,.s l=>K (.ptr (freeze (dR dep h (aev G env x)) h).length 0) (freeze (dR dep h (aev G env x)) h++[.sit l 0])
   | _,_=>False
 | .next x false=>if dr then False else match aev G env x with
   | .ptr id 0=>match h[id]? with
     | some (.mit _ ks vs)=>(ks=[]→K (.tup [.b false]) h)∧∀ (j:Nat) (k v:AV),ks[j]? = some k→vs[j]? = some v→K (.tup [.b true,k,v]) (h.set id (.mit (some (k,v)) (ks.eraseIdx j) (vs.eraseIdx j)))
     | _=>False
   | _=>False
 | .next x true=>if dr then False else match aev G env x with
   | .ptr id 0=>match h[id]? with
     | some (.sit l pos)=>(l.length≤pos→K (.tup [.b false]) h)∧∀ (c:UInt8),l[pos]? = some c→(c.toNat < 128→K (.tup [.b true,.i .i64 pos,.i .i32 c.toNat]) (h.set id (.sit l (pos+1)))) ∧
         ∀ (rn k:Nat),128≤c.toNat→128≤rn→rn≤2147483647→1≤k→K (.tup [.b true,.i .i64 pos,.i .i32 rn]) (h.set id (.sit l (pos+k)))
     | _=>False
   | _=>False
 | .entry x=>if dr then False else match aev G env x with
   | .ptr id 0=>match h[id]? with
     | some (.mit (some (k,v)) _ _)=>K (.tup [k,v]) h
     | _=>False
   | _=>False
 | .buildSlice T len ps=>D8 (if (dr && aMh ps.toList)=true then (bAv P T len ps).map fun v=>(v,h) else aop P G env h (.buildSlice T len ps)) K
 | o=>D8 (aop P G env h o) K

end

def bKo (y:Operand) (op:BinOp) (T:TypeId) (x:Operand):Option (TypeId × Operand):=
 match y with
 | .const (.slice Option.none 0 0)=>(match op with | .eql=>some (T,x) | _=>Option.none)
 | _=>Option.none
def eQ:Op→Option (TypeId × Operand)
 | .binOp op T x y _=>bKo y op T x
 | _=>Option.none
def bMj (P:Program) (T:TypeId) (v:AV) (K:AV→Prop):Prop:=
 match P.underlying T with
 | some (.slice _)=>(match v with
   | .e0=>K (.b true)∧K (.b false)
   | .sl _ n=>(n=0→K (.b true))∧K (.b false)
   | _=>False)
 | _=>False

def jP (P:Program) (T:TypeId):Option Nat:=
 match P.underlying T with
 | some (.array _ e)=>kH P e
 | _=>Option.none
def sL (P:Program) (ev:Operand→AV):Op→Option (Nat × List AV)
 | .alloc T=>match jP P T with
   | some sz=>(zeroOf P T).map (sz,·)
   | Option.none=>Option.none
 | .box T x=>match jP P T with
   | some sz=>(jJ (ev x)).map (sz,·)
   | Option.none=>Option.none
 | _=>Option.none
section
variable (P:Program) (G:fS) (dr:Option DR)
def rI (op:Op) (K:AV→List AObj→Prop) (env:List AV) (h:List AObj):Prop:=
 match eQ op,dr with
 | some (T,x),Option.none=>bMj P T (aev G env x) (fun r=>K r h)
 | _,_=>match sL P (aev G env) op with
   | some (sz,cells)=>(match dr with
     | Option.none=>K (.ptr h.length 0) (h++[.arr false sz cells])
     | some _=>fG P G dr.isSome op K env h)
   | Option.none=>fG P G dr.isSome op K env h
def vOp (dr:Option DR) (ck:Bool):Op→Option (TypeId × Nat × Array (Nat × Operand))
 | .buildSlice T len ps=>if ck && dr.isSome then some (T,len,ps) else Option.none
 | _=>Option.none
def zOp (dr:Option DR) (ck:Bool):Op→Option (Call × DR)
 | .call ⟨.value f,as,ts⟩=>match ck,dr with
   | true,some N=>some (⟨.value f,as,ts⟩,N)
   | _,_=>Option.none
 | _=>Option.none
def bKt (N:DR) (c:Call) (K:AV→List AObj→Prop) (env:List AV) (h:List AObj):Prop:=
 ∃ x h',fG P G false (.call c) (fun x1 h1=>x1=x∧h1=h') env h∧lS N h h'∧K x h'
def aVc (ck:Bool) (op:Op) (K:AV→List AObj→Prop) (env:List AV) (h:List AObj):Prop:=
 match vOp dr ck op with
 | some (T,len,ps)=>D8 ((aMw P (aev G env) T len ps).map fun v=>(v,h)) K
 | Option.none=>match zOp dr ck op with
   | some (c,N)=>bKt P G N c K env h
   | Option.none=>rI P G dr op K env h
def dG : List fZ→(List AV→List AObj→Prop)→List AV→List AObj→Prop
 | [],K,env,h=>K env h
 | o::os,K,env,h=>
   match o.gd with
   | Option.none=>aMj G dr o.ck o.op env∧aVc P G dr o.ck o.op (fun r h'=>dG os K (gN env o.dst r) h') env h
   | some (t,want)=>qP (yR (env.getD t .u) want)
       (aMj G dr o.ck o.op env∧aVc P G dr o.ck o.op (fun r h'=>dG os K (gN env o.dst r) h') env h) (dG os K (gN env o.dst (.tup [])) h)

end

def J6 (K:List AV→List AObj→Prop) (Q:Exit→List AV→List AObj→Prop):Exit→List AV→List AObj→Prop
 | .normal,env,h=>K env h
 | e,env,h=>Q e env h
def H9 (id:Nat) (Q:Exit→List AV→List AObj→Prop):Exit→List AV→List AObj→Prop
 | .exit i,env,h=>if i=id then Q .normal env h else Q (.exit i) env h
 | e,env,h=>Q e env h

def Loop (B:(Exit→List AV→List AObj→Prop)→List AV→List AObj→Prop) (Q:Exit→List AV→List AObj→Prop) (env:List AV) (h:List AObj):Prop:=
 ∃ (S:Type) (I:S→List AV→List AObj→Prop) (μ:S→Nat) (s0:S),I s0 env h∧∀ s env h,I s env h→B (J6 (fun e' h'=>∃ s',I s' e' h'∧μ s' < μ s) Q) env h

section
variable (P:Program) (G:fS)
def awx:lT→(Exit→List AV→List AObj→Prop)→List AV→List AObj→Prop
 | .skip,Q,env,h=>Q .normal env h
 | .region ops,Q,env,h=>dG P G Option.none ops (Q .normal) env h
 | .draw th ops,Q,env,h=>dG P G (some (bYq th h.length)) ops (Q .normal) env h
 | .seq a b,Q,env,h=>awx a (J6 (awx b Q) Q) env h
 | .cond c a b,Q,env,h=>qP (aev G env c) (awx a Q env h) (awx b Q env h)
 | .block id c,Q,env,h=>awx c (H9 id Q) env h
 | .loop c,Q,env,h=>Loop (awx c) Q env h
 | .exit id,Q,env,h=>Q (.exit id) env h
 | .ret,Q,env,h=>Q .ret env h
end

def anyPre (o:Oper):List Nat:=(o.after.toList.filter (Region.binds .any)).map (·.on)
def aRf (t:Tmp) (o:Oper):Bool:=
 match o.op with
 | .buildSlice .. => o.dst == some t
 | .call ⟨.builtin .append,_,_⟩=>o.dst == some t
 | _=>false
def K6 (o:Oper):Bool:=
 match o.op with
 | .call ⟨.builtin .append,_,_⟩=>true
 | _=>false
def aLi (ops:Array Oper) (q:Oper→Bool):List Nat→Bool
 | []=>false
 | e::es=>(match ops[e]? with | some o=>q o | Option.none=>false) || aLi ops q es
def oJ (o:Oper):Bool:=
 match o.op with
 | .store .. => true
 | _=>false
def bKp (o:Oper):Bool:=
 match o.op with
 | .load .. | .slice .. | .nilCheck _ | .fieldAddr .. | .indexAddr .. | .lookup .. => true
 | .call ⟨.builtin .len,_,_⟩=>true
 | _=>false
def aBb (ops:Array Oper) (q:Oper→Bool) (o:Oper):Bool:=o.after.toList.any fun d => !(Region.binds .any d) && (match ops[d.on]? with | some p=>q p | Option.none=>false)
def aHu (ops:Array Oper) (o:Oper):Bool:=o.dst.isSome && ops.toList.any fun p=>oJ p && p.after.toList.any fun d => !(Region.binds .any d) && (match ops[d.on]? with | some q=>q.dst == o.dst | Option.none=>false)
def aIa (ops:Array Oper):Bool:=ops.toList.any K6
def bRw (m:Bool) (ops:Array Oper) (o:Oper):Bool:=
 match o.op with
 | .call c=>match c.callee with
   | .builtin .append=>match c.args.toList with
     | [.tmp t,_]=>m || aLi ops (aRf t) (anyPre o)
     | _=>false
   | .builtin .len=>(aIa ops && !aLi ops K6 (anyPre o)) || aBb ops oJ o || (m && aHu ops o)
   | _=>false
 | .load .. | .slice .. | .nilCheck _ | .fieldAddr .. | .indexAddr .. | .lookup .. => (aIa ops && !aLi ops K6 (anyPre o)) || aBb ops oJ o || (m && aHu ops o)
 | .store .. => aBb ops bKp o
 | _=>false

def bHu (ops:Array Oper) (o:Oper):Bool:=
 match o.dst with
 | some t=>ops.toList.any fun p=>match p.op with
   | .call ⟨.builtin .append,as,_⟩=>(match as.toList with
     | [.tmp s,_]=>s == t
     | _=>false)
   | _=>false
 | Option.none=>false
def aLv (ops:Array Oper) (o:Oper):Bool:=
 match o.op with
 | .buildSlice _ _ ps=>o.guard.isNone && (!ps.toList.isEmpty && !bHu ops o)
 | _=>false
def vOf (rx:RX) (ops:Array Oper) (o:Oper):Bool:=rx.v && aLv ops o
def exd:List Nat→Option Nat→Bool
 | [],_=>false
 | d::l,t=>t == some d || exd l t
def ckX (rx:RX) (ops:Array Oper) (o:Oper):Bool:=(bRw rx.m ops o || (!rx.z.isEmpty && bKp o)) && !exd rx.x o.dst
def zOf (rx:RX) (o:Oper):Bool:=
 match o.op with
 | .call ⟨.value _,_,_⟩=>exd rx.z o.dst
 | _=>false
def ckF (rx:RX) (ops:Array Oper) (o:Oper):Bool:=(rx.on && ckX rx ops o) || (vOf rx ops o || zOf rx o)
def jV (rx:RX) (ops:Array Oper) (o:Oper):Option fZ:=
 match o.guard with
 | Option.none=>some ⟨o.dst,o.op,Option.none,ckF rx ops o⟩
 | some (j,want)=>match (ops[j]?).bind (·.dst) with
   | some d=>some ⟨o.dst,o.op,some (d,want),ckF rx ops o⟩
   | Option.none=>Option.none

def eJ (rx:RX) (ops:Array Oper):List Oper→Option (List fZ)
 | []=>some []
 | o::os=>match jV rx ops o,eJ rx ops os with
   | some a,some l=>some (a::l)
   | _,_=>Option.none

section
variable {P:Program} {G:fS} {dr:Bool}

def aCx (G:fS) (X:Ctx) (w:World) (h:List AObj) (K:List AV→List AObj→Prop) (a':Act) (w':World):Prop:=
 ∃ env' h' X',K env' h'∧GH G X' w' h'∧EnvOK X' w' h' env' a'∧Tr X w h X' w' h'

def AW (P:Program) (G:fS) (c:Code) (Q:Exit→List AV→List AObj→Prop) (env:List AV) (h:List AObj):Prop:=
 ∀ (X:Ctx) (w:World) (a:Act),GH G X w h→EnvOK X w h env a→c.wp P (fun e a' w'=>aCx G X w h (Q e) a' w') a w

theorem bGn {X:Ctx} {w:World} {h:List AObj} {env:List AV} {a:Act} {K:AV→List AObj→Prop} {o:Oper} (g:GH G X w h) (r:EnvOK X w h env a) (e:D8 (aop P G env h o.op) K) :
   ∃ x h',K x h'∧tH G X w h ((execOp a.eval o).run P w) x h':=by
 cases ha:aop P G env h o.op with
 | none=>rw [ha] at e; exact e.elim
 | some q=>
   obtain ⟨x,h'⟩:=q
   rw [ha] at e
   exact ⟨x,h',e,bSn g r o ha⟩

theorem jZ {X:Ctx} {w:World} {h:List AObj} {env:List AV} {a:Act} {o:Oper} {x:AV} {h':List AObj} {next:Act→World→Prop} {Q:Exit→Act→World→Prop} (r:EnvOK X w h env a)
   (e:tH G X w h ((execOp a.eval o).run P w) x h') (hn:∀ a' w' X',GH G X' w' h'→EnvOK X' w' h' (gN env o.dst x) a'→Tr X w h X' w' h'→next a' w'):o.wp P a w next Q:=by
 obtain ⟨X',w',nx,v,hrun,hnx,rx,g',t⟩:=e
 unfold Oper.wp
 rw [hrun]
 rcases hnx with rfl | ⟨rfl,rfl⟩
 · exact hn _ _ _ g' ((r.mono t.ext).put _ rx) t
 · exact hn _ _ _ g' ((r.mono t.ext).put _ rx) t

theorem aNa {X:Ctx} {w:World} {h:List AObj} {env:List AV} {a:Act} {K:AV→List AObj→Prop} (o:Oper) (c:Call) (ho:o.op=.call c) (hc:c.callee=.builtin .append) (g:GH G X w h) (r:EnvOK X w h env a)
   (e:nR P G dr env h c K):∃ x h',K x h'∧tH G X w h ((execOp a.eval o).run P w) x h':=by
 unfold nR at e
 rw [hc] at e
 simp only at e
 split at e
 case h_2=>exact e.elim
 rename_i T U s x hty harg
 obtain ⟨o1,o2,ho1⟩:∃ o1 o2,c.args = #[o1,o2]:=by
   have:c.args.toList.length=2:=by have:=congrArg List.length harg; simpa using this
   match hc:c.args with
   | ⟨[o1,o2]⟩=>exact ⟨o1,o2,rfl⟩
   | ⟨[]⟩=>simp [hc] at this
   | ⟨[_]⟩=>simp [hc] at this
   | ⟨_::_::_::_⟩=>simp [hc] at this
 have htys:c.argTypes = #[T,U]:=by rw [← nP (xs:=c.argTypes),hty]
 simp only [ho1,aT,bN,gM,and_true] at harg
 obtain ⟨rfl,rfl⟩:=harg
 have hexec:∀ y' w',(Builtin.append_ #[T,U] o.type #[a.eval o1,a.eval o2]).run P w=.ok y' w'→(execOp a.eval o).run P w=.ok (.value y') w':=by
   intro y' w' hrun
   unfold execOp
   simp only [ho]
   simp [resolve,hc,ho1,htys,invoke,builtin,hrun]
 split at e
 case isFalse=>
   split at e
   case h_2=>exact e.elim
   rename_i kn hU
   cases ha:pO P h T (aev G env o1) (aev G env o2) with
   | none=>rw [ha] at e; exact e.elim
   | some q=>
     obtain ⟨y,h'⟩:=q
     rw [ha] at e
     obtain ⟨X',w',y',hrun,rr,g',t⟩:=X6 (ty:=o.type) hU g (iC g r o1) (iC g r o2) ha
     exact ⟨y,h',e,X',w',_,_,hexec _ _ hrun,.inl rfl,rr,g',t⟩
 rename_i hTU
 subst hTU
 split at e
 · cases ha:gA P h T (aev G env o1) (aev G env o2) with
   | none=>rw [ha] at e; exact e.elim
   | some q=>
     obtain ⟨y,h'⟩:=q
     rw [ha] at e
     obtain ⟨X',w',y',hrun,rr,g',t⟩:=I6 (ty:=o.type) g (iC g r o1) (iC g r o2) ha
     exact ⟨y,h',e,X',w',_,_,hexec _ _ hrun,.inl rfl,rr,g',t⟩
 · obtain ⟨X1,g1,r1,t1⟩:=uE g (iC g r o2)
   cases ha:gA P (freeze (dR dep h (aev G env o2)) h) T (aev G env o1) (gH dep h (aev G env o2)) with
   | none=>rw [ha] at e; exact e.elim
   | some q=>
     obtain ⟨y,h'⟩:=q
     rw [ha] at e
     obtain ⟨X',w',y',hrun,rr,g',t⟩:=I6 (ty:=o.type) g1 ((iC g r o1).mono t1.ext) r1 ha
     exact ⟨y,h',e,X',w',_,_,hexec _ _ hrun,.inl rfl,rr,g',t1.trans t⟩

theorem aKi {X:Ctx} {w:World} {h:List AObj} {env:List AV} {a:Act} {K:AV→List AObj→Prop} (o:Oper) (T:TypeId) (m k x:Operand) (ho:o.op=.mapUpdate T m k x) (g:GH G X w h) (r:EnvOK X w h env a)
   (e:fG P G dr o.op K env h):∃ x h',K x h'∧tH G X w h ((execOp a.eval o).run P w) x h':=by
 rw [ho] at e
 unfold fG at e
 simp only at e
 have hexec:∀ w',(Instr.mapUpdate T (a.eval m) (a.eval k) (a.eval x)).run P w=.ok () w'→(execOp a.eval o).run P w=.ok .skip w':=by
   intro w' hrun
   unfold execOp
   simp only [ho]
   simp [hrun]
 split at e
 · cases ha:eX P h T (aev G env m) (aev G env k) (aev G env x) with
   | none=>rw [ha] at e; exact e.elim
   | some h'=>
     rw [ha] at e
     obtain ⟨w',hrun,g',t⟩:=rZ g (iC g r m) (iC g r k) (iC g r x) ha
     exact ⟨.u,h',e,X,w',_,_,hexec _ hrun,.inr ⟨rfl,rfl⟩,.u _,g',t⟩
 · obtain ⟨X1,g1,r1,t1⟩:=uE g (iC g r x)
   cases ha:eX P (freeze (dR dep h (aev G env x)) h) T (aev G env m) (aev G env k) (gH dep h (aev G env x)) with
   | none=>rw [ha] at e; exact e.elim
   | some h'=>
     rw [ha] at e
     obtain ⟨w',hrun,g',t⟩:=rZ g1 ((iC g r m).mono t1.ext) ((iC g r k).mono t1.ext) r1 ha
     exact ⟨.u,h',e,X1,w',_,_,hexec _ hrun,.inr ⟨rfl,rfl⟩,.u _,g',t1.trans t⟩

theorem aPf {X:Ctx} {w:World} {h:List AObj} {env:List AV} {a:Act} {K:AV→List AObj→Prop} (o:Oper) (T:TypeId) (x:Operand) (ho:o.op=.range T x) (g:GH G X w h) (r:EnvOK X w h env a)
   (e:fG P G dr o.op K env h):∃ x h',K x h'∧tH G X w h ((execOp a.eval o).run P w) x h':=by
 rw [ho] at e
 unfold fG at e
 simp only at e
 split at e
 · exact e.elim
 split at e
 · rename_i K' E ks vs hT hs
   obtain ⟨X1,g1,r1,t1⟩:=uE g (iC g r x)
   rw [hs] at r1
   obtain ⟨X',w',u,hrun,ru,g',t⟩:=aWr hT g1 r1
   refine ⟨_,_,e,X',w',_,_,?_,.inl rfl,ru,g',t1.trans t⟩
   unfold execOp
   simp only [ho]
   simp [hrun]
 · rename_i l hT hs
   obtain ⟨X1,g1,r1,t1⟩:=uE g (iC g r x)
   rw [hs] at r1
   obtain ⟨X',w',u,hrun,ru,g',t⟩:=aPg hT g1 r1
   refine ⟨_,_,e,X',w',_,_,?_,.inl rfl,ru,g',t1.trans t⟩
   unfold execOp
   simp only [ho]
   simp [hrun]
 · exact e.elim

theorem aXo {X:Ctx} {w:World} {h:List AObj} {env:List AV} {a:Act} {K:AV→List AObj→Prop} (o:Oper) (x:Operand) (ho:o.op=.next x false) (g:GH G X w h) (r:EnvOK X w h env a)
   (e:fG P G dr o.op K env h):∃ x h',K x h'∧tH G X w h ((execOp a.eval o).run P w) x h':=by
 rw [ho] at e
 unfold fG at e
 simp only at e
 split at e
 · exact e.elim
 split at e
 · rename_i id hx
   split at e
   · rename_i cur ks vs hid
     have rx:=iC g r x
     rw [hx] at rx
     have hexec:∀ y' w',(Instr.next (a.eval x) false o.type).run P w=.ok y' w'→(execOp a.eval o).run P w=.ok (.value y') w':=by
       intro y' w' hrun
       unfold execOp
       simp only [ho]
       simp [hrun]
     rcases bHh (ty:=o.type) hid g rx with ⟨hk,hrun⟩ | ⟨j,k,v,hk,hv,w',kv,xv,hrun,rk,rv,g',t⟩
     · exact ⟨_,_,e.1 hk,X,w,_,_,hexec _ _ hrun,.inl rfl,.tup rfl (fun j a v ha hv=>by
         cases j with
         | zero=>simp at ha hv; subst ha; subst hv; exact .b _
         | succ j=>simp at ha),g,.refl _ _ _⟩
     · exact ⟨_,_,e.2 j k v hk hv,X,w',_,_,hexec _ _ hrun,.inl rfl,.tup rfl (fun j a v ha hv=>by
         match j with
         | 0=>simp at ha hv; subst ha; subst hv; exact .b _
         | 1=>simp at ha hv; subst ha; subst hv; exact rk
         | 2=>simp at ha hv; subst ha; subst hv; exact rv
         | j+3=>simp at ha),g',t⟩
   · exact e.elim
 · exact e.elim

theorem aQl {X:Ctx} {w:World} {h:List AObj} {env:List AV} {a:Act} {K:AV→List AObj→Prop} (o:Oper) (x:Operand) (ho:o.op=.next x true) (g:GH G X w h) (r:EnvOK X w h env a)
   (e:fG P G dr o.op K env h):∃ x h',K x h'∧tH G X w h ((execOp a.eval o).run P w) x h':=by
 rw [ho] at e
 unfold fG at e
 simp only at e
 split at e
 · exact e.elim
 split at e
 · rename_i id hx
   split at e
   · rename_i l pos hid
     have rx:=iC g r x
     rw [hx] at rx
     have hexec:∀ y' w',(Instr.next (a.eval x) true o.type).run P w=.ok y' w'→(execOp a.eval o).run P w=.ok (.value y') w':=by
       intro y' w' hrun
       unfold execOp
       simp only [ho]
       simp [hrun]
     rcases aXp (ty:=o.type) hid g rx with ⟨hk,hrun⟩ | ⟨c,rn,k,hc,hcase,w',hrun,g',t⟩
     · exact ⟨_,_,e.1 hk,X,w,_,_,hexec _ _ hrun,.inl rfl,.tup rfl (fun j a v ha hv=>by
         cases j with
         | zero=>simp at ha hv; subst ha; subst hv; exact .b _
         | succ j=>simp at ha),g,.refl _ _ _⟩
     · have hK:K (.tup [.b true,.i .i64 pos,.i .i32 rn]) (h.set id (.sit l (pos+k))):=by
         rcases hcase with ⟨h1,rfl,rfl⟩ | ⟨h1,h2,h3,h4⟩
         · exact (e.2 c hc).1 h1
         · exact (e.2 c hc).2 rn k h1 h2 h3 h4
       exact ⟨_,_,hK,X,w',_,_,hexec _ _ hrun,.inl rfl,.tup rfl (fun j a v ha hv=>by
         match j with
         | 0=>simp at ha hv; subst ha; subst hv; exact .b _
         | 1=>simp at ha hv; subst ha; subst hv; exact .i _ _
         | 2=>simp at ha hv; subst ha; subst hv; exact .i _ _
         | j+3=>simp at ha),g',t⟩
   · exact e.elim
 · exact e.elim

theorem aSi {X:Ctx} {w:World} {h:List AObj} {env:List AV} {a:Act} {K:AV→List AObj→Prop} (o:Oper) (x:Operand) (ho:o.op=.entry x) (g:GH G X w h) (r:EnvOK X w h env a)
   (e:fG P G dr o.op K env h):∃ x h',K x h'∧tH G X w h ((execOp a.eval o).run P w) x h':=by
 rw [ho] at e
 unfold fG at e
 simp only at e
 split at e
 · exact e.elim
 split at e
 · rename_i id hx
   split at e
   · rename_i k v _ _ hid
     have rx:=iC g r x
     rw [hx] at rx
     obtain ⟨kv,xv,hrun,rk,rv⟩:=aZc (P:=P) hid g rx
     have hexec:(execOp a.eval o).run P w=.ok (.value (.tuple #[kv,xv])) w:=by
       unfold execOp
       simp only [ho]
       simp [hrun]
     exact ⟨_,_,e,X,w,_,_,hexec,.inl rfl,.tup rfl (fun j a v ha hv=>by
       match j with
       | 0=>simp at ha hv; subst ha; subst hv; exact rk
       | 1=>simp at ha hv; subst ha; subst hv; exact rv
       | j+2=>simp at ha),g,.refl _ _ _⟩
   · exact e.elim
 · exact e.elim

theorem aTp {X:Ctx} {w:World} {h:List AObj} {f:FuncId} {first capt:List AV} {v:Value} (r:RV X w h (.fn f first capt) v) :
   ∃ first' capt',v=.func (.func f) first' capt'∧first.length=first'.size∧capt.length=capt'.size∧(∀ (j:Nat) (a:AV) (v:Value),first[j]? = some a→first'[j]? = some v→RV X w h a v) ∧
     (∀ (j:Nat) (a:AV) (v:Value),capt[j]? = some a→capt'[j]? = some v→RV X w h a v):=by
 cases r with
 | fn h1 h2 h3 h4=>exact ⟨_,_,rfl,h1,h2,h3,h4⟩
 | dead hr _ _=>simp [AV.refs] at hr

theorem P6 {Q:AV→Value→Prop} {as bs:List AV} {us vs:Array Value} (ha:as.length=us.size) (h1:∀ (j:Nat) (a:AV) (v:Value),as[j]? = some a→us[j]? = some v→Q a v)
   (h2:∀ (j:Nat) (a:AV) (v:Value),bs[j]? = some a→vs[j]? = some v→Q a v):∀ (j:Nat) (a:AV) (v:Value),(as++bs)[j]? = some a→(us++vs)[j]? = some v→Q a v:=by
 intro j a v hx hv
 by_cases hj:j < as.length
 · rw [aD hj] at hx
   rw [gS (by omega)] at hv
   exact h1 _ _ _ hx hv
 · rw [aK (by omega)] at hx
   rw [Array.getElem?_append_right (by omega),← ha] at hv
   exact h2 _ _ _ hx hv

theorem aJo {X:Ctx} {w:World} {h:List AObj} (g:GH G X w h) {cells:List AV} {cs:Array Value} (T:TypeId) {n cap:Nat} (hl:cells.length≤cs.size) (h1:nO cs) (hr:∀ (j:Nat) (x:AV) (u:Value),cells[j]? = some x→cs[j]? = some u→RV X w h x u) (hnc:n≤cap) :
   ∃ X' w',(newRow T cs).run P w=.ok ⟨w.heap.size,0,Option.none⟩ w'∧RV X' w' h (.sl cells n) (.slice (some ⟨w.heap.size,0,Option.none⟩) n cap)∧GH G X' w' h∧Tr X w h X' w' h:=by
 have hp:=gO.alloc w (.cells cs T (0,0))
 have hgr:=hp.grew
 have e:Ext X w h ⟨fun b=>X.F b∨b=w.heap.size,X.ι⟩ (w.alloc (.cells cs T (0,0))) h:=
   ⟨fun _ f=>.inl f,fun b hb=>hp.old (g.fbnd b hb),fun b s hs=>by rw [kP (hp.old (qD hs))]; exact hs,fun id o ho=>⟨o,ho,.inr ⟨AObj.like_refl _,.inl rfl⟩⟩⟩
 refine ⟨⟨fun b=>X.F b∨b=w.heap.size,X.ι⟩,_,rfl,?_,⟨?_,g.dom,g.inj,?_,?_,fun k a hk=>(g.gl k a hk).mono e⟩,⟨⟨hgr.size,hgr.os,hgr.tape,hgr.output,fun b hb _=>hp.old hb,fun id b o hb=>.inr ⟨id,o,hb⟩,?_⟩,e,fun id z hid _=>hid⟩⟩
 · exact .sl (b:=w.heap.size) (o:=0) (.inr rfl) hp.at (by omega) hnc (fun j v _ hv=>h1 j v (by simpa using hv)) (fun j a v ha hv=>(hr j a v ha (by simpa using hv)).mono e)
 · intro id ob hob
   refine (g.objs id ob hob).mono e rfl (fun b o hb=>hp.old (g.bnd _ _ _ hb)) (fun b o hb f=>?_)
   rcases f with f | f
   · exact f
   · have:=g.bnd _ _ _ hb; omega
 · intro id b o hb
   exact fC (g.bnd _ _ _ hb) hgr.size
 · intro b hb
   rcases hb with f | f
   · exact fC (g.fbnd b f) hgr.size
   · rw [f]; have:=hp.size; show w.heap.size < (w.alloc (.cells cs T (0,0))).heap.size; omega
 · intro b hb
   rcases hb with f | f
   · exact .inl f
   · exact .inr (.inl (by omega))
theorem aOq {X:Ctx} {w:World} {h:List AObj} {env:List AV} {a:Act} {v:AV} (o:Oper) {T:TypeId} {len:Nat} {ps:Array (Nat × Operand)} (ho:o.op=.buildSlice T len ps) (g:GH G X w h) (r:EnvOK X w h env a) (e:aMw P (aev G env) T len ps=some v) :
   tH G X w h ((execOp a.eval o).run P w) v h:=by
 unfold aMw at e
 cases he:eF P T with
 | none=>simp [he] at e
 | some el=>
 have hu:=pL he
 cases hz:zeroOf P el with
 | none=>simp [he,hz] at e
 | some z=>
 simp only [he,hz] at e
 split at e
 case isFalse=>cases e
 rename_i hcnd
 obtain ⟨hsz,hz0,hlen,hbig⟩:=hcnd
 obtain ⟨i,zv,hi,hiz,hzc⟩:=iD hz
 obtain ⟨z1,z2,z3⟩:=uN (X:=X) (w:=w) (h:=h) hzc len
 cases hf:mG (fun i=>some (i * z.length,z.length)) (List.replicate len z).flatten (ps.toList.map fun (i,x)=>(i,aev G env x)) with
 | none=>simp [hf] at e
 | some cells=>
 simp only [hf] at e
 split at e
 case isFalse=>cases e
 cases e
 obtain ⟨p1,p2⟩:=zR g r ps
 obtain ⟨vout,f1,f2,f3,f4,f5⟩:=F6 (fun i=>some (i * z.length,z.length)) _ _ _ _ cells p1 p2 z1 z2 z3 hf
 have hvs:vout.size=len * z.length:=by rw [f5]; simp
 obtain ⟨X',w',hrun,rr,g',t⟩:=aJo (P:=P) g el (n:=len) (cap:=len) (by omega) f3 f4 (aZ _)
 unfold execOp
 simp only [ho]
 refine ⟨X',w',_,_,?_,.inl rfl,rr,g',t⟩
 have hnb:¬ (len * z.length > 2 ^ 24):=by omega
 have f1':Instr.fill (fun i=>some (i * z.length,z.length)) ((Array.range (len * z.length)).map (zv.cells[· % zv.cells.size]!)) (ps.map fun x=>(x.1,a.eval x.2)).toList=some vout:=f1
 have h0:¬ len * z.length=0:=Nat.ne_of_gt (Nat.mul_pos hlen hz0)
 simp only [Instr.buildSlice,bE,run_underlying hu,aR,fW hsz,if_neg hnb,dB,if_neg h0,nX hi hiz,f1',hrun]
theorem bFn {X:Ctx} {w:World} {h:List AObj} {env:List AV} {a:Act} {v:AV} (o:Oper) {T:TypeId} {len:Nat} {ps:Array (Nat × Operand)} (ho:o.op=.buildSlice T len ps) (g:GH G X w h) (r:EnvOK X w h env a) (hc:aMh ps.toList=true) (e:bAv P T len ps=some v) :
   tH G X w h ((execOp a.eval o).run P w) v h:=by
 unfold bAv at e
 cases he:eF P T with
 | none=>simp [he] at e
 | some el=>
 have hu:=pL he
 cases hz:zeroOf P el with
 | none=>simp [he,hz] at e
 | some z=>
 simp only [he,hz] at e
 split at e
 case isFalse=>cases e
 rename_i hcnd
 obtain ⟨hsz,hz0,hlen,hbig⟩:=hcnd
 obtain ⟨i,zv,hi,hiz,hzc⟩:=iD hz
 obtain ⟨z1,z2,z3⟩:=uN (X:=X) (w:=w) (h:=h) hzc len
 cases hf:mG (fun i=>some (i * z.length,z.length)) (List.replicate len z).flatten (ps.toList.map fun (i,x)=>(i,bVy x)) with
 | none=>simp [hf] at e
 | some cells=>
 simp only [hf] at e
 split at e
 case isFalse=>cases e
 cases e
 rw [← bJf (G:=G) (env:=env) hc] at hf
 obtain ⟨p1,p2⟩:=zR g r ps
 obtain ⟨vout,f1,f2,f3,f4,f5⟩:=F6 (fun i=>some (i * z.length,z.length)) _ _ _ _ cells p1 p2 z1 z2 z3 hf
 have hvs:vout.size=len * z.length:=by rw [f5]; simp
 obtain ⟨X',w',hrun,rr,g',t⟩:=aJo (P:=P) g el (n:=len) (cap:=len) (by omega) f3 f4 (aZ _)
 unfold execOp
 simp only [ho]
 refine ⟨X',w',_,_,?_,.inl rfl,rr,g',t⟩
 have hnb:¬ (len * z.length > 2 ^ 24):=by omega
 have f1':Instr.fill (fun i=>some (i * z.length,z.length)) ((Array.range (len * z.length)).map (zv.cells[· % zv.cells.size]!)) (ps.map fun x=>(x.1,a.eval x.2)).toList=some vout:=f1
 have h0:¬ len * z.length=0:=Nat.ne_of_gt (Nat.mul_pos hlen hz0)
 simp only [Instr.buildSlice,bE,run_underlying hu,aR,fW hsz,if_neg hnb,dB,if_neg h0,nX hi hiz,f1',hrun]
theorem I2 {X:Ctx} {w:World} {h:List AObj} {env:List AV} {a:Act} {K:AV→List AObj→Prop} {next:Act→World→Prop} {Q:Exit→Act→World→Prop} (o:Oper) (g:GH G X w h) (r:EnvOK X w h env a) (e:fG P G dr o.op K env h)
   (hn:∀ x h' a' w' X',K x h'→GH G X' w' h'→EnvOK X' w' h' (gN env o.dst x) a'→Tr X w h X' w' h'→next a' w'):o.wp P a w next Q:=by
 have plain:D8 (aop P G env h o.op) K→o.wp P a w next Q:=by
   intro e
   obtain ⟨x,h',hK,hres⟩:=bGn g r e
   exact jZ r hres (fun a' w' X' g' r' t=>hn x h' a' w' X' hK g' r' t)
 cases ho:o.op with
 | call c=>
   rw [ho] at e
   unfold fG at e
   simp only at e
   cases hc:c.callee with
   | builtin b=>
     by_cases hb:b=.append
     · subst hb
       obtain ⟨x,h',hK,hres⟩:=aNa o c ho hc g r e
       exact jZ r hres (fun a' w' X' g' r' t=>hn x h' a' w' X' hK g' r' t)
     · refine plain ?_
       unfold nR at e
       rw [ho]
       simp only [aop,hc]
       rw [hc] at e
       cases b <;> first | exact e | exact absurd rfl hb
   | value fx=>
     unfold nR at e
     rw [hc] at e
     simp only at e
     have rf:=iC g r fx
     cases hf:aev G env fx with
     | fn f first capt=>
       rw [hf] at e rf
       simp only at e
       obtain ⟨first',capt',hv,l1,l2,r1,r2⟩:=aTp rf
       obtain ⟨m1,m2⟩:=aQp g r c.args
       unfold Oper.wp
       have e0:=E8 e
       have hrun:(execOp a.eval o).run P w=.ok (.enter f (first'++c.args.map a.eval++capt')) w:=by
         unfold execOp
         simp only [ho]
         simp [resolve,hc,hv,Deferred.ofValue,invoke,Z8 e0.1]
       rw [hrun]
       have e:=E8 e
       refine (e.2 X w (first'++c.args.map a.eval++capt') g (by simp [l1,l2]) (P6 (by simp [l1]) (P6 l1 r1 m2) r2)).mono ?_
       rintro e' w' ⟨v,x,h',X',rfl,hK,g',rx,t⟩
       exact hn x h' _ w' X' hK g' ((r.mono t.ext).put _ rx) t
     | _=>rw [hf] at e; exact e.elim
   | invoke _ _=>unfold nR at e; rw [hc] at e; exact e.elim
 | mapUpdate T m k x=>
   obtain ⟨x,h',hK,hres⟩:=aKi o T m k x ho g r e
   exact jZ r hres (fun a' w' X' g' r' t=>hn x h' a' w' X' hK g' r' t)
 | range T x=>
   obtain ⟨x,h',hK,hres⟩:=aPf o T x ho g r e
   exact jZ r hres (fun a' w' X' g' r' t=>hn x h' a' w' X' hK g' r' t)
 | entry x=>
   obtain ⟨x,h',hK,hres⟩:=aSi o x ho g r e
   exact jZ r hres (fun a' w' X' g' r' t=>hn x h' a' w' X' hK g' r' t)
 | next x b=>
   cases b with
   | true=>
     obtain ⟨x,h',hK,hres⟩:=aQl o x ho g r e
     exact jZ r hres (fun a' w' X' g' r' t=>hn x h' a' w' X' hK g' r' t)
   | false=>
     obtain ⟨x,h',hK,hres⟩:=aXo o x ho g r e
     exact jZ r hres (fun a' w' X' g' r' t=>hn x h' a' w' X' hK g' r' t)
 | buildSlice T len ps=>
   rw [ho] at e
   unfold fG at e
   simp only at e
   by_cases hc:(dr && aMh ps.toList)=true
   · rw [if_pos hc] at e
     cases hv:bAv P T len ps with
     | none=>rw [hv] at e; exact e.elim
     | some v=>
       rw [hv] at e
       simp only [aA] at hc
       exact jZ r (bFn o ho g r hc.2 hv) (fun a' w' X' g' r' t=>hn v h a' w' X' e g' r' t)
   · rw [if_neg hc] at e
     exact plain (by rw [ho]; exact e)
 | _=>exact plain (by rw [ho] at e ⊢; exact e)

theorem C3 (w:World) (d:Nat) {T el:TypeId} (hT:P.underlying T=some (.slice el)) (ad:Option Addr) (n c:Nat):(Op.equalIn (d+1) T (.slice ad n c) (.slice Option.none 0 0)).run P w=.ok ad.isNone w:=by
 unfold Op.equalIn
 rw [bE,run_underlying hT]
 cases ad <;> rfl
theorem bHg {X:Ctx} {w:World} {h:List AObj} {env:List AV} {a:Act} {K:AV→List AObj→Prop} (o:Oper) (T:TypeId) (x:Operand) (U:TypeId) (ho:o.op=.binOp .eql T x (.const (.slice Option.none 0 0)) U) (g:GH G X w h) (r:EnvOK X w h env a)
   (e:bMj P T (aev G env x) (fun r=>K r h)):∃ x h',K x h'∧tH G X w h ((execOp a.eval o).run P w) x h':=by
 unfold bMj at e
 split at e
 case h_2=>exact e.elim
 rename_i el hT
 have rx:=iC g r x
 have hexec:∀ (ad:Option Addr) (n c:Nat),a.eval x=.slice ad n c→(execOp a.eval o).run P w=.ok (.value (.bool ad.isNone)) w:=by
   intro ad n c hx
   have hy:a.eval (.const (.slice Option.none 0 0))=.slice Option.none 0 0:=rfl
   have h1:=C3 (P:=P) w 9999 hT ad n c
   have h2:(binOp .eql T (.slice ad n c) (.slice Option.none 0 0)).run P w=.ok (.bool ad.isNone) w:=by
     simp only [binOp,Op.equal,Op.maxDepth]
     simp [h1]
   have h3:(eqGuard .eql T x (.const (.slice Option.none 0 0)) (.slice ad n c) (.slice Option.none 0 0)).run P w=.ok () w:=by simp [eqGuard]
   unfold execOp
   simp only [ho,hx,hy]
   simp [h2,h3]
 have fin:∀ b:Bool,(execOp a.eval o).run P w=.ok (.value (.bool b)) w→K (.b b) h→∃ x h',K x h'∧tH G X w h ((execOp a.eval o).run P w) x h':=
   fun b hb hk=>⟨.b b,h,hk,.pure g hb (.b b)⟩
 cases hx:aev G env x with
 | e0=>
   rw [hx] at e rx
   generalize hv:a.eval x=v at rx
   cases rx with
   | e0 ad=>
     have:=hexec ad 0 0 hv
     cases ad with
     | none=>exact fin true this e.1
     | some _=>exact fin false this e.2
   | dead hr _ _=>simp [AV.refs] at hr
 | sl cells n=>
   rw [hx] at e rx
   generalize hv:a.eval x=v at rx
   cases rx with
   | sl0 ad c=>
     have:=hexec ad 0 c hv
     cases ad with
     | none=>exact fin true this (e.1 rfl)
     | some _=>exact fin false this e.2
   | sl=>exact fin false (hexec _ _ _ hv) e.2
   | dead hr _ _=>simp [AV.refs] at hr
 | _=>rw [hx] at e; exact e.elim

theorem Z9 {N:DR} {op:Op} {K:AV→List AObj→Prop} {env:List AV} {h:List AObj}:rI P G (some N) op K env h=fG P G true op K env h:=by
 unfold rI
 cases eQ op <;> cases sL P (aev G env) op <;> rfl

theorem bJr {X:Ctx} {w:World} {h:List AObj} {env:List AV} {a:Act} {K:AV→List AObj→Prop} {sz:Nat} {cells:List AV} (o:Oper) (g:GH G X w h) (r:EnvOK X w h env a) (ha:sL P (aev G env) o.op=some (sz,cells))
   (e:K (.ptr h.length 0) (h++[.arr false sz cells])):∃ x h',K x h'∧tH G X w h ((execOp a.eval o).run P w) x h':=by
 have ar:∀ {cs:Array Value} (T:TypeId),cs.size=cells.length→nO cs→(∀ (j:Nat) (x:AV) (u:Value),cells[j]? = some x→cs[j]? = some u→RV X w h x u) →
     ∃ X' w',(newRow T cs).run P w=.ok ⟨w.heap.size,0,Option.none⟩ w'∧RV X' w' (h++[.arr false sz cells]) (.ptr h.length 0) (.pointer (some ⟨w.heap.size,0,Option.none⟩))∧GH G X' w' (h++[.arr false sz cells])∧Tr X w h X' w' (h++[.arr false sz cells]):=by
   intro cs T hl h1 hr
   have hp:=gO.alloc w (.cells cs T (0,0))
   obtain ⟨g',t⟩:=sD g hp _ ((nD g hp cells (by omega) (fun j v _ hv=>h1 j v hv) hr).2 sz)
   refine ⟨_,_,rfl,?_,g',t⟩
   have:=RV.ptr (X:=X.upd h.length (some (w.heap.size,0))) (w:=w.alloc (.cells cs T (0,0))) (h:=h++[.arr false sz cells]) (id:=h.length) (off:=0) (ob:=.arr false sz cells) (b:=w.heap.size) (o:=0) (by simp) (by simp) (Ctx.upd_same _ _ _)
   simpa using this
 cases ho:o.op with
 | alloc T=>
   rw [ho] at ha
   simp only [sL] at ha
   cases hs:jP P T with
   | none=>simp [hs] at ha
   | some s=>
     cases hz:zeroOf P T with
     | none=>simp [hs,hz] at ha
     | some c=>
       simp only [hs,hz,cJ,aB,aP] at ha
       obtain ⟨rfl,rfl⟩:=ha
       obtain ⟨i,zv,hi,hiz,hzc⟩:=iD hz
       obtain ⟨h1,h2,h3⟩:=mX (X:=X) (w:=w) (h:=h) hzc
       obtain ⟨X',w',hrun,rr,g',t⟩:=ar T h1 h2 h3
       refine ⟨_,_,e,X',w',_,_,?_,.inl rfl,rr,g',t⟩
       unfold execOp
       simp [ho,Instr.alloc,nX hi hiz,newVar,hrun]
 | box T y=>
   rw [ho] at ha
   simp only [sL] at ha
   cases hs:jP P T with
   | none=>simp [hs] at ha
   | some s=>
     cases hc:jJ (aev G env y) with
     | none=>simp [hs,hc] at ha
     | some c=>
       simp only [hs,hc,cJ,aB,aP] at ha
       obtain ⟨rfl,rfl⟩:=ha
       obtain ⟨h1,h2,h3⟩:=(iC g r y).cells hc
       obtain ⟨X',w',hrun,rr,g',t⟩:=ar T h1 h2 h3
       refine ⟨_,_,e,X',w',_,_,?_,.inl rfl,rr,g',t⟩
       unfold execOp
       simp [ho,Instr.box,newVar,hrun]
 | _=>rw [ho] at ha; simp [sL] at ha

theorem bFu {dr:Option DR} {X:Ctx} {w:World} {h:List AObj} {env:List AV} {a:Act} {K:AV→List AObj→Prop} {next:Act→World→Prop} {Q:Exit→Act→World→Prop} (o:Oper) (g:GH G X w h) (r:EnvOK X w h env a) (e:rI P G dr o.op K env h)
   (hn:∀ x h' a' w' X',K x h'→GH G X' w' h'→EnvOK X' w' h' (gN env o.dst x) a'→Tr X w h X' w' h'→next a' w'):o.wp P a w next Q:=by
 cases dr with
 | some N=>rw [Z9] at e; exact I2 o g r e hn
 | none=>
   cases hnt:eQ o.op with
   | none=>
     unfold rI at e; rw [hnt] at e
     simp only at e
     cases ha:sL P (aev G env) o.op with
     | none=>rw [ha] at e; exact I2 o g r e hn
     | some q=>
       rw [ha] at e
       obtain ⟨y,h',hK,hres⟩:=bJr o g r ha e
       exact jZ r hres (fun a' w' X' g' r' t=>hn y h' a' w' X' hK g' r' t)
   | some q=>
     obtain ⟨T,x⟩:=q
     unfold rI at e
     rw [hnt] at e
     have hop:∃ U,o.op=.binOp .eql T x (.const (.slice Option.none 0 0)) U:=by
       cases ho:o.op with
       | binOp op T' x' y U=>
         rw [ho] at hnt
         simp only [eQ] at hnt
         unfold bKo at hnt
         split at hnt
         · split at hnt
           · cases hnt; exact ⟨U,rfl⟩
           · cases hnt
         · cases hnt
       | _=>rw [ho] at hnt; simp [eQ] at hnt
     obtain ⟨U,hop⟩:=hop
     obtain ⟨y,h',hK,hres⟩:=bHg o T x U hop g r e
     exact jZ r hres (fun a' w' X' g' r' t=>hn y h' a' w' X' hK g' r' t)

theorem bBy {dr:Option DR} {ck:Bool} {op:Op} {q:TypeId × Nat × Array (Nat × Operand)} (h:vOp dr ck op=some q):op=.buildSlice q.1 q.2.1 q.2.2∧ck=true∧dr.isSome=true:=by
 unfold vOp at h
 split at h
 · split at h
   · rename_i hc; cases h; simp only [aA] at hc; exact ⟨rfl,hc⟩
   · cases h
 · cases h
theorem aNk {dr:Option DR} {ck:Bool} {op:Op} {q:Call × DR} (h:zOp dr ck op=some q):op=.call q.1∧ck=true∧dr=some q.2:=by
 unfold zOp at h
 split at h
 · split at h
   · cases h; exact ⟨rfl,rfl,rfl⟩
   · cases h
 · cases h
theorem aOy {dr:Option DR} {ck:Bool} {X:Ctx} {w:World} {h:List AObj} {env:List AV} {a:Act} {K:AV→List AObj→Prop} {next:Act→World→Prop} {Q:Exit→Act→World→Prop} (o:Oper) (g:GH G X w h) (r:EnvOK X w h env a) (e:aVc P G dr ck o.op K env h)
   (hn:∀ x h' a' w' X',K x h'→GH G X' w' h'→EnvOK X' w' h' (gN env o.dst x) a'→Tr X w h X' w' h'→next a' w'):o.wp P a w next Q:=by
 unfold aVc at e
 cases hv:vOp dr ck o.op with
 | none=>
   rw [hv] at e
   simp only at e
   cases hz:zOp dr ck o.op with
   | none=>rw [hz] at e; exact bFu o g r e hn
   | some q=>
     obtain ⟨c,N⟩:=q
     rw [hz] at e
     obtain ⟨x,h',hd,_,hK⟩:=e
     refine I2 (dr:=false) (K:=fun x1 h1=>x1=x∧h1=h') o g r (by rw [(aNk hz).1]; exact hd) ?_
     rintro x1 h1 a' w' X' ⟨rfl,rfl⟩ g' r' t
     exact hn _ _ _ _ _ hK g' r' t
 | some q=>
   obtain ⟨T,len,ps⟩:=q
   rw [hv] at e
   simp only at e
   cases ha:aMw P (aev G env) T len ps with
   | none=>rw [ha] at e; exact e.elim
   | some v=>
     rw [ha] at e
     exact jZ r (aOq o (bBy hv).1 g r ha) (fun a' w' X' g' r' t=>hn v h a' w' X' e g' r' t)
theorem Y1 {X:Ctx} {w:World} {h:List AObj} {env:List AV} {a:Act} {ops:Array Oper} {o:Oper} {j d:Nat} {want c:Bool} (r:EnvOK X w h env a) (hg:o.guard=some (j,want)) (hd:((ops[j]?).bind fun x=>x.dst)=some d)
   (hc:yR (env.getD d .u) want=.b c):Region.wanted o (yielded ops a.tmps)=c:=by
 have hlt:d < env.length:=by
   rcases A6 d env.length with h1 | h1
   · exact h1
   · rw [List.getD,jQ h1] at hc; simp [yR] at hc
 have hlt':d < a.tmps.size:=r.size ▸ hlt
 have hr:=r.rel d (env.getD d .u) a.tmps[d] (by simp [List.getD,hlt]) (by simp [hlt'])
 cases hx:env.getD d .u with
 | b x=>
   rw [hx] at hr hc
   simp only [yR,AV.b.injEq] at hc
   have hv:=aFn hr
   have hgt:a.tmps[d]? = some (.bool x):=by rw [← hv]; simp [hlt']
   have hy:yielded ops a.tmps j=some x:=by simp only [yielded,hd,W9,hgt]
   simp only [Region.wanted,hg,hy]
   rw [← hc]
   cases x <;> cases want <;> rfl
 | tup l =>
   rw [hx] at hr hc
   cases l with
   | cons=>simp [yR] at hc
   | nil =>
     simp only [yR,AV.b.injEq] at hc
     have hv:a.tmps[d]=.tuple #[]:=by
       cases hr':a.tmps[d] with
       | tuple vs=>
         rw [hr'] at hr
         cases hr with
         | tup h1 h2=>exact congrArg Value.tuple (Array.eq_empty_of_size_eq_zero (by simpa using h1.symm))
         | dead h1=>simp [AV.refs] at h1
       | _=>
         rw [hr'] at hr
         cases hr with
         | dead h1=>simp [AV.refs] at h1
     have hgt:a.tmps[d]? = some (.tuple #[]):=by rw [← hv]; simp [hlt']
     have hy:yielded ops a.tmps j=none:=by simp only [yielded,hd,W9,hgt]
     simp only [Region.wanted,hg,hy]
     rw [← hc]; rfl
 | _=>rw [hx] at hc; simp [yR] at hc

theorem U7 {rx:RX} {dr:Option DR} {ops:Array Oper} {Q:Exit→Act→World→Prop} {K:List AV→List AObj→Prop}:∀ (l:List Oper) (al:List fZ),eJ rx ops l=some al→∀ (env:List AV) (h:List AObj) (X:Ctx) (w:World) (a:Act),
   dG P G dr al K env h→GH G X w h→EnvOK X w h env a→(∀ a' w',aCx G X w h K a' w'→Q .normal a' w')→wpList P ops Q l a w
 | [],al,hs,env,h,X,w,a,e,g,r,hQ=>by
   simp only [eJ,aB] at hs
   subst hs
   exact hQ a w ⟨env,h,X,e,g,r,.refl _ _ _⟩
 | o :: l, al,hs,env,h,X,w,a,e,g,r,hQ=>by
   simp only [eJ] at hs
   cases ho:jV rx ops o with
   | none=>simp [ho] at hs
   | some ao=>
   cases hl:eJ rx ops l with
   | none=>simp [ho,hl] at hs
   | some al'=>
   simp only [ho,hl,aB] at hs
   subst hs
   have rest:∀ (x:AV) (h':List AObj) (a':Act) (w':World) (X':Ctx),dG P G dr al' K (gN env o.dst x) h'→GH G X' w' h'→EnvOK X' w' h' (gN env o.dst x) a'→Tr X w h X' w' h'→wpList P ops Q l a' w':=
     fun x h' a' w' X' e' g' r' t=>U7 l al' hl _ h' X' w' a' e' g' r' (fun a2 w2 ⟨env2,h2,X2,k1,k2,k3,k4⟩=>hQ a2 w2 ⟨env2,h2,X2,k1,k2,k3,t.trans k4⟩)
   unfold jV at ho
   cases hg:o.guard with
   | none=>
     simp only [hg,aB] at ho
     subst ho
     simp only [dG] at e
     refine wpList_plain hg (fun K' hK'=>?_)
     exact aOy o g r e.2 (fun x h' a' w' X' k1 k2 k3 k4=>hK' _ _ (rest x h' a' w' X' k1 k2 k3 k4))
   | some q=>
     obtain ⟨j,want⟩:=q
     simp only [hg] at ho
     cases hd:(ops[j]?).bind (·.dst) with
     | none=>simp [hd] at ho
     | some d=>
       simp only [hd,aB] at ho
       subst ho
       simp only [dG] at e
       cases hx:yR (env.getD d .u) want with
       | b x=>
         rw [hx] at e
         simp only [qP] at e
         have hw:=Y1 r hg hd hx
         refine wpList_step (fun K' hK'=>?_)
         rw [hw]
         cases x with
         | true=>
           simp only [if_true]
           exact aOy o g r (e.1 rfl).2 (fun x h' a' w' X' k1 k2 k3 k4=>hK' _ _ (rest x h' a' w' X' k1 k2 k3 k4))
         | false=>
           simp only [aM,if_false]
           exact hK' _ _ (rest (.tup []) h _ w X (e.2 rfl) g (r.put _ (.tup (vs := #[]) rfl (by simp))) (.refl _ _ _))
       | _=>rw [hx] at e; exact e.elim

end

inductive DK where
 | c | a | r | w | l
 deriving DecidableEq

def iN (o:Oper):Bool:=
 match o.op with
 | .alloc _=>o.guard.isNone && (anyPre o).isEmpty
 | _=>false

def tE (o:Oper):Option DK:=
 match o.op with
 | .move _ | .assign _ | .pick .. | .binOp .. | .unOp .. | .convert .. | .makeFunc .. | .field .. | .index .. | .extract .. | .build .. => some .c
 | .alloc _=>if iN o then some .a else some .w
 | .load .. | .nilCheck _ | .slice .. | .fieldAddr .. | .indexAddr .. | .lookup .. => some .r
 | .buildSlice _ n ps=>if (n == 0 && ps.toList.isEmpty || aMh ps.toList) && o.guard.isNone then some .c else some .w
 | .box .. | .makeSlice .. | .makeMap .. => some .w
 | .store .. | .mapUpdate .. => some .l
 | .call c=>match c.callee with
   | .builtin .len=>some .r
   | .builtin .append=>some .l
   | .value _=>some .w
   | _=>Option.none
 | _=>Option.none

def bMc (op:Op):List Nat:=op.operands.toList.filterMap fun | .tmp t=>some t | _=>Option.none
def bXs (ops:Array Oper) (o:Oper):List Nat:=
 match o.guard with
 | some (j,_)=>((ops[j]?).bind (·.dst)).toList
 | Option.none=>[]
def ouses (ops:Array Oper) (o:Oper):List Nat:=o.dst.toList++(bMc o.op++bXs ops o)

def E7:DK→DK→Bool
 | .w,.w | .w,.l | .l,.w | .l,.l | .r,.l | .l,.r=>false
 | _,_=>true

def aEv (o:Oper):Bool:=K6 o || oJ o
def dk (rx:RX) (ops:Array Oper) (o:Oper):Option DK:=if vOf rx ops o=true then some .c else if zOf rx o=true then some .l else tE o
theorem T2 {rx:RX} {ops:Array Oper} {o:Oper} {k:DK} (h:dk rx ops o=some k) (hk:k ≠ .c) (hl:k ≠ .l):vOf rx ops o=false∧zOf rx o=false∧tE o=some k:=by
 unfold dk at h
 split at h
 · cases h; exact absurd rfl hk
 · split at h
   · cases h; exact absurd rfl hl
   · rename_i hv hz; exact ⟨by simpa using hv,by simpa using hz,h⟩
def aQn (rx:RX) (ops:Array Oper) (q:Oper):Bool:=(aEv q && ckX rx ops q) || zOf rx q
def K0 (rx:RX) (ops:Array Oper) (p q:Oper):Bool:=
 rx.on && ((dk rx ops p == some .r && ckX rx ops p && aQn rx ops q) || (dk rx ops q == some .r && ckX rx ops q && aQn rx ops p))

def indepOK (rx:RX) (ops:Array Oper) (p q:Oper):Bool:=
 p.dst.all (fun d => !(ouses ops q).contains d) && q.dst.all (fun d => !(ouses ops p).contains d) &&
   ((match dk rx ops p,dk rx ops q with
   | some a,some b=>E7 a b
   | _,_=>false) || ((dk rx ops p).isSome && (dk rx ops q).isSome && K0 rx ops p q))

section
variable {P:Program} {G:fS}

def DOp (P:Program) (G:fS) (op:Op) (env:List AV) (h:List AObj) (x:AV) (h':List AObj):Prop:=fG P G true op (fun x1 h1=>x1=x∧h1=h') env h

theorem zU {q:Option (AV × List AObj)} {K:AV→List AObj→Prop}:D8 q K↔∃ x h',D8 q (fun x1 h1=>x1=x∧h1=h')∧K x h':=by
 cases q with
 | none=>simp [D8]
 | some q=>obtain ⟨x,h'⟩:=q; exact ⟨fun hK=>⟨x,h',⟨rfl,rfl⟩,hK⟩,fun ⟨x',h'',⟨e1,e2⟩,hK⟩=>by subst e1; subst e2; exact hK⟩

theorem bAt {op:Op} {K:AV→List AObj→Prop} {env:List AV} {h:List AObj}:fG P G true op K env h↔∃ x h',DOp P G op env h x h'∧K x h':=by
 unfold DOp
 cases op with
 | call c=>
   simp only [fG,nR]
   cases c.callee with
   | builtin b=>
     cases b <;> first
       | exact zU
       | skip
     simp only
     split
     · split
       · split <;> exact zU
       · split
         · exact zU
         · simp
     · simp
   | value f=>
     simp only
     cases aev G env f <;> simp only [K5,if_true,false_and,exists_const,exists_false]
     exact ⟨fun ⟨r,s,k⟩=>⟨_,_,⟨r,s,rfl,rfl⟩,k⟩,fun ⟨x,h',⟨r,s,e1,e2⟩,k⟩=>⟨r,s,by rw [e1,e2]; exact k⟩⟩
   | invoke _ _=>simp
 | mapUpdate T m k x=>
   simp only [fG]
   split
   · cases eX P h T (aev G env m) (aev G env k) (aev G env x) with
     | none=>simp
     | some h'=>exact ⟨fun hK=>⟨_,_,⟨rfl,rfl⟩,hK⟩,fun ⟨x',h'',⟨e1,e2⟩,hK⟩=>by subst e1; subst e2; exact hK⟩
   · cases eX P (freeze (dR dep h (aev G env x)) h) T (aev G env m) (aev G env k) (gH dep h (aev G env x)) with
     | none=>simp
     | some h'=>exact ⟨fun hK=>⟨_,_,⟨rfl,rfl⟩,hK⟩,fun ⟨x',h'',⟨e1,e2⟩,hK⟩=>by subst e1; subst e2; exact hK⟩
 | range T x=>simp [fG]
 | entry x=>simp [fG]
 | next x b=>cases b with
   | true=>simp [fG]
   | false=>simp [fG]
 | _=>simp only [fG]; exact zU

theorem mO {env env':List AV} {xs:Array Operand} (he:∀ o ∈ xs.toList,aev G env o=aev G env' o):xs.toList.map (aev G env)=xs.toList.map (aev G env'):=kW he

theorem qH {env env':List AV} {o:Option Operand} (he:∀ x ∈ o.toArray.toList,aev G env x=aev G env' x):o.map (aev G env)=o.map (aev G env'):=by
 cases o with
 | none=>rfl
 | some x=>simp only [cJ,aB]; exact he x (by simp)

theorem P3 {op:Op} {K:AV→List AObj→Prop} {env env':List AV} {h:List AObj} (he:∀ o ∈ op.operands.toList,aev G env o=aev G env' o) (e:fG P G true op K env h):fG P G true op K env' h:=by
 have one:∀ o,o ∈ op.operands.toList→aev G env' o=aev G env o:=fun o ho=>(he o ho).symm
 cases op with
 | call c=>
   simp only [fG,nR] at e ⊢
   have hargs:c.args.toList.map (aev G env')=c.args.toList.map (aev G env):=(mO (fun o ho=>he o (by simp only [Op.operands,Call.operands]; cases c.callee <;> simp <;> simp at ho <;> (first | exact ho | exact .inr ho)))).symm
   rw [hargs]
   cases hc:c.callee with
   | builtin b=>rw [hc] at e; cases b <;> exact e
   | value f=>
     rw [hc] at e
     simp only at e ⊢
     rw [one f (by simp [Op.operands,Call.operands,hc])]
     exact e
   | invoke _ _=>rw [hc] at e; exact e
 | mapUpdate T m k x=>
   simp only [fG] at e ⊢
   rw [one m (by simp [Op.operands]),one k (by simp [Op.operands]),one x (by simp [Op.operands])]
   exact e
 | move x=>simp only [fG,aop] at e ⊢; rw [one x (by simp [Op.operands])]; exact e
 | assign x=>simp only [fG,aop] at e ⊢; rw [one x (by simp [Op.operands])]; exact e
 | pick c a b=>simp only [fG,aop] at e ⊢; rw [one c (by simp [Op.operands]),one a (by simp [Op.operands]),one b (by simp [Op.operands])]; exact e
 | alloc T=>exact e
 | box T x=>simp only [fG,aop] at e ⊢; rw [one x (by simp [Op.operands])]; exact e
 | build T ps=>
   simp only [fG,aop] at e ⊢
   have:(ps.toList.map fun (i,x)=>(i,aev G env' x))=ps.toList.map fun (i,x)=>(i,aev G env x):=by
     apply kW
     rintro ⟨i,x⟩ hp
     simp only
     rw [one x (by simp only [Op.operands]; simp; exact ⟨i,by simpa using hp⟩)]
   rw [this]; exact e
 | buildSlice T n ps=>
   simp only [fG,aop] at e ⊢
   have:(ps.toList.map fun (i,x)=>(i,aev G env' x))=ps.toList.map fun (i,x)=>(i,aev G env x):=by
     apply kW
     rintro ⟨i,x⟩ hp
     simp only
     rw [one x (by simp only [Op.operands]; simp; exact ⟨i,by simpa using hp⟩)]
   rw [this]; exact e
 | load T x=>simp only [fG,aop] at e ⊢; rw [one x (by simp [Op.operands])]; exact e
 | store T x y=>simp only [fG,aop] at e ⊢; rw [one x (by simp [Op.operands]),one y (by simp [Op.operands])]; exact e
 | nilCheck x=>simp only [fG,aop] at e ⊢; rw [one x (by simp [Op.operands])]; exact e
 | binOp op T x y U=>simp only [fG,aop] at e ⊢; rw [one x (by simp [Op.operands]),one y (by simp [Op.operands])]; exact e
 | unOp op T x=>simp only [fG,aop] at e ⊢; rw [one x (by simp [Op.operands])]; exact e
 | convert S T x=>simp only [fG,aop] at e ⊢; rw [one x (by simp [Op.operands])]; exact e
 | makeFunc fn a b=>
   cases fn with
   | func f=>
     simp only [fG,aop] at e ⊢
     have h1:a.toList.map (aev G env')=a.toList.map (aev G env):=(mO (fun o ho=>he o (by simp only [Op.operands]; simp; simp at ho; exact .inl ho))).symm
     have h2:b.toList.map (aev G env')=b.toList.map (aev G env):=(mO (fun o ho=>he o (by simp only [Op.operands]; simp; simp at ho; exact .inr ho))).symm
     rw [h1,h2]; exact e
   | _=>exact e
 | makeMap T r=>cases r <;> exact e
 | makeSlice T l c=>simp only [fG,aop] at e ⊢; rw [one l (by simp [Op.operands]),one c (by simp [Op.operands])]; exact e
 | slice T x l hi m=>
   simp only [fG,aop] at e ⊢
   have h1:l.map (aev G env')=l.map (aev G env):=(qH (fun o ho=>he o (by simp only [Op.operands]; simp at ho ⊢; simp [ho]))).symm
   have h2:hi.map (aev G env')=hi.map (aev G env):=(qH (fun o ho=>he o (by simp only [Op.operands]; simp at ho ⊢; simp [ho]))).symm
   have h3:m.map (aev G env')=m.map (aev G env):=(qH (fun o ho=>he o (by simp only [Op.operands]; simp at ho ⊢; simp [ho]))).symm
   rw [h1,h2,h3,one x (by simp [Op.operands])]; exact e
 | fieldAddr S x f=>simp only [fG,aop] at e ⊢; rw [one x (by simp [Op.operands])]; exact e
 | field T x f=>simp only [fG,aop] at e ⊢; rw [one x (by simp [Op.operands])]; exact e
 | indexAddr T x i=>simp only [fG,aop] at e ⊢; rw [one x (by simp [Op.operands]),one i (by simp [Op.operands])]; exact e
 | index T x i=>simp only [fG,aop] at e ⊢; rw [one x (by simp [Op.operands]),one i (by simp [Op.operands])]; exact e
 | lookup T m k ok=>simp only [fG,aop] at e ⊢; rw [one m (by simp [Op.operands]),one k (by simp [Op.operands])]; exact e
 | extract x i=>simp only [fG,aop] at e ⊢; rw [one x (by simp [Op.operands])]; exact e
 | range T x=>simp [fG] at e
 | entry x=>simp [fG] at e
 | next x b=>cases b with
   | true=>simp [fG] at e
   | false=>simp [fG] at e
 | _=>simp only [fG,aop,D8] at e

def sN (h h':List AObj) (a:AV):Prop:=∀ id,a.refs=some id→h[id]? = Option.none∨(h[id]?).map AObj.strip=(h'[id]?).map AObj.strip

theorem iZ {h h':List AObj} {id:Nat} {ob:AObj} (s:h[id]? = Option.none∨(h[id]?).map AObj.strip=(h'[id]?).map AObj.strip) (e:h[id]? = some ob):∃ ob',h'[id]? = some ob'∧ob.strip=ob'.strip:=by
 rcases s with s | s
 · rw [e] at s; cases s
 · rw [e] at s
   cases h2:h'[id]? with
   | none=>simp [h2] at s
   | some ob'=>simp [h2] at s; exact ⟨ob',rfl,s⟩

theorem uV {ob ob':AObj} {fz:Bool} {c:List AV} (e:ob.strip=ob'.strip) (h:ob=.box fz c):∃ fz',ob'=.box fz' c:=by
 subst h; cases ob' <;> simp [AObj.strip] at e; exact ⟨_,by rw [e]⟩
theorem lW {ob ob':AObj} {fz:Bool} {s:Nat} {c:List AV} (e:ob.strip=ob'.strip) (h:ob=.arr fz s c):∃ fz',ob'=.arr fz' s c:=by
 subst h; cases ob' <;> simp [AObj.strip] at e; exact ⟨_,by rw [e.1,e.2]⟩
theorem M4 {ob ob':AObj} {m:Bool} {q:Option (Nat × Obj)→Prop} (e:ob.strip=ob'.strip) (h:ob=.held m q):ob'=.held m q:=by
 subst h; cases ob' <;> simp [AObj.strip] at e; rw [e.1,e.2]
theorem Z1 {ob ob':AObj} {fz:Bool} {k v:List AV} (e:ob.strip=ob'.strip) (h:ob=.map fz k v):∃ fz',ob'=.map fz' k v:=by
 subst h; cases ob' <;> simp [AObj.strip] at e; exact ⟨_,by rw [e.1,e.2]⟩

theorem aUk {h h':List AObj} {a:AV} {q:List AV × Nat} (s:sN h h' a) (e:aJs h a=some q):aJs h' a=some q:=by
 cases a with
 | ptr id off=>
   simp only [aJs] at e ⊢
   cases ho:h[id]? with
   | none=>simp [ho] at e
   | some ob=>
     obtain ⟨ob',h1,h2⟩:=iZ (s id rfl) ho
     cases ob with
     | box fz c=>obtain ⟨fz',rfl⟩:=uV h2 rfl; simpa [ho,h1] using e
     | arr fz n c=>obtain ⟨fz',rfl⟩:=lW h2 rfl; simpa [ho,h1] using e
     | _=>simp [ho] at e
 | box cells off=>exact e
 | _=>simp [aJs] at e

theorem aNc {h h':List AObj} {T:TypeId} {a x:AV} (s:sN h h' a) (e:wX P T h a=some x):wX P T h' a=some x:=by
 unfold wX at e ⊢
 cases ho:aJs h a with
 | none=>simp [ho] at e
 | some q=>rw [ho] at e; rw [aUk s ho]; exact e

theorem aFt {h h':List AObj} {T:TypeId} {x y:AV} {lo hi mx:Option AV} (s:sN h h' x) (e:rF P h T x lo hi mx=some y):rF P h' T x lo hi mx=some y:=by
 cases x with
 | hs id off n t=>
   unfold rF at e ⊢
   split at e
   · cases e
   rename_i hc
   rw [if_neg hc]
   cases hu:P.underlying T with
   | none=>simp [hu] at e
   | some d=>
     rw [hu] at e
     cases d with
     | slice el=>
       simp only at e ⊢
       cases hs:kH P el with
       | none=>simp [hs] at e
       | some sz=>
         simp only [hs] at e ⊢
         cases ho:h[id]? with
         | none=>simp [ho] at e
         | some ob=>
           obtain ⟨ob',h1,h2⟩:=iZ (s id rfl) ho
           cases ob with
           | arr fz k c=>obtain ⟨fz',rfl⟩:=lW h2 rfl; simp only [ho] at e; simp only [h1]; exact e
           | _=>simp [ho] at e
     | _=>exact e
 | ptr id off=>
   unfold rF at e ⊢
   split at e
   · cases e
   rename_i hc
   rw [if_neg hc]
   cases hu:P.underlying T with
   | none=>simp [hu] at e
   | some d=>
     rw [hu] at e
     cases d with
     | array len el=>
       simp only at e ⊢
       split at e
       case h_2=>cases e
       split at e
       case h_2=>cases e
       rename_i he
       cases he
       split at e
       case h_2=>cases e
       rename_i ho
       obtain ⟨ob',h1,h2⟩:=iZ (s id rfl) ho
       obtain ⟨fz',rfl⟩:=lW h2 rfl
       simp only [h1]
       exact e
     | _=>exact e
 | _=>exact e

theorem I9 {h h':List AObj} {T:TypeId} {x i y:AV} (s:sN h h' x) (e:iM P h T x i=some y):iM P h' T x i=some y:=by
 unfold iM at e ⊢
 cases i with
 | i k n =>
   simp only at e ⊢
   cases hu:P.underlying T with
   | none=>simp [hu] at e
   | some d=>
     rw [hu] at e
     cases d with
     | slice el=>
       simp only at e ⊢
       cases hs:kH P el with
       | none=>simp [hs] at e
       | some sz=>
         simp only [hs] at e ⊢
         cases x with
         | hs id off len t=>
           simp only at e ⊢
           cases ho:h[id]? with
           | none=>simp [ho] at e
           | some ob=>
             obtain ⟨ob',h1,h2⟩:=iZ (s id rfl) ho
             cases ob with
             | arr fz k c=>obtain ⟨fz',rfl⟩:=lW h2 rfl; simp only [ho] at e; simp only [h1]; exact e
             | _=>simp [ho] at e
         | _=>exact e
     | array len el=>
       simp only at e ⊢
       cases hs:kH P el with
       | none=>simp [hs] at e
       | some sz=>
         simp only [hs] at e ⊢
         split at e
         case isFalse=>cases e
         rename_i hc
         rw [if_pos hc]
         cases x with
         | ptr id off=>
           simp only at e ⊢
           cases ho:h[id]? with
           | none=>simp [ho] at e
           | some ob=>
             obtain ⟨ob',h1,h2⟩:=iZ (s id rfl) ho
             cases ob with
             | arr fz k c=>obtain ⟨fz',rfl⟩:=lW h2 rfl; simp only [ho] at e; simp only [h1]; exact e
             | box fz c=>obtain ⟨fz',rfl⟩:=uV h2 rfl; simp only [ho] at e; simp only [h1]; exact e
             | _=>simp [ho] at e
         | _=>exact e
     | _=>exact e
 | _=>exact e

theorem aFw {h h':List AObj} {a:AV} {q:List AV × List AV} (s:sN h h' a) (e:pQ h a=some q):pQ h' a=some q:=by
 cases a with
 | mp id=>
   simp only [pQ] at e ⊢
   cases ho:h[id]? with
   | none=>simp [ho] at e
   | some ob=>
     obtain ⟨ob',h1,h2⟩:=iZ (s id rfl) ho
     cases ob with
     | map fz k v=>obtain ⟨fz',rfl⟩:=Z1 h2 rfl; simpa [ho,h1] using e
     | _=>simp [ho] at e
 | p v=>cases v with
   | map m=>cases m <;> exact e
   | _=>exact e
 | _=>exact e

theorem aCp {h h':List AObj} {T:TypeId} {m k x:AV} {ok:Bool} (s:sN h h' m) (e:nK P h T m k ok=some x):nK P h' T m k ok=some x:=by
 unfold nK at e ⊢
 cases hu:P.underlying T with
 | none=>simp [hu] at e
 | some d=>
   rw [hu] at e
   cases d with
   | map K E=>
     simp only at e ⊢
     split at e
     case isFalse=>cases e
     rename_i hk
     rw [if_pos hk]
     cases hm:pQ h m with
     | none=>simp [hm] at e
     | some q=>rw [hm] at e; rw [aFw s hm]; exact e
   | _=>exact e

theorem aUu {h h':List AObj} {T:TypeId} {a:AV} {n:Nat} (s:sN h h' a) (e:aUv P h T a=some n):aUv P h' T a=some n:=by
 unfold aUv at e ⊢
 cases hu:P.underlying T with
 | none=>simp [hu] at e
 | some d=>
   rw [hu] at e
   cases d with
   | string=>exact e
   | slice el=>
     cases a with
     | hs id off k t=>
       simp only at e ⊢
       cases ho:h[id]? with
       | none=>simp [ho] at e
       | some ob=>
         obtain ⟨ob',h1,h2⟩:=iZ (s id rfl) ho
         cases ob with
         | arr fz k c=>obtain ⟨fz',rfl⟩:=lW h2 rfl; simp only [ho] at e; simp only [h1]; exact e
         | _=>simp [ho] at e
     | _=>exact e
   | map K E=>
     cases a with
     | mp id=>
       simp only at e ⊢
       cases ho:h[id]? with
       | none=>simp [ho] at e
       | some ob=>
         obtain ⟨ob',h1,h2⟩:=iZ (s id rfl) ho
         cases ob with
         | map fz k v=>obtain ⟨fz',rfl⟩:=Z1 h2 rfl; simp only [ho] at e; simp only [h1]; exact e
         | _=>simp [ho] at e
     | p v=>cases v with
       | map m=>cases m <;> exact e
       | _=>exact e
     | _=>exact e
   | _=>exact e

def rOp:Op→Bool
 | .move _ | .assign _ | .pick .. | .load .. | .nilCheck _ | .binOp .. | .unOp .. | .convert .. | .makeFunc .. | .slice .. | .fieldAddr .. | .field .. | .indexAddr .. | .index .. | .lookup .. | .extract .. | .build .. => true
 | .call c=>match c.callee with | .builtin .len=>true | _=>false
 | _=>false

theorem aAe {op:Op} (hk:rOp op=true) {env:List AV} {h hh:List AObj} {x:AV} (e:DOp P G op env h x hh) :
   hh=h∧∀ h',(∀ o ∈ op.operands.toList,sN h h' (aev G env o))→DOp P G op env h' x h':=by
 unfold DOp at e ⊢
 have fin:∀ {q:List AObj→Option AV},D8 (match q h with | some v=>some (v,h) | Option.none=>Option.none) (fun x1 h1=>x1=x∧h1=hh) →
     (∀ h',(∀ o ∈ op.operands.toList,sN h h' (aev G env o))→∀ v,q h=some v→q h'=some v) →
     hh=h∧∀ h',(∀ o ∈ op.operands.toList,sN h h' (aev G env o))→D8 (match q h' with | some v=>some (v,h') | Option.none=>Option.none) (fun x1 h1=>x1=x∧h1=h'):=by
   intro q e hq
   cases hv:q h with
   | none=>rw [hv] at e; exact e.elim
   | some v=>
     rw [hv] at e
     obtain ⟨e1,e2⟩:=e
     refine ⟨e2.symm,fun h' hs=>?_⟩
     rw [hq h' hs v hv]
     exact ⟨e1,rfl⟩
 have const:∀ {q:Option AV},D8 (match q with | some v=>some (v,h) | Option.none=>Option.none) (fun x1 h1=>x1=x∧h1=hh) →
     hh=h∧∀ h',(∀ o ∈ op.operands.toList,sN h h' (aev G env o))→D8 (match q with | some v=>some (v,h') | Option.none=>Option.none) (fun x1 h1=>x1=x∧h1=h'):=by
   intro q e
   cases q with
   | none=>exact e.elim
   | some v=>exact ⟨e.2.symm,fun h' _=>⟨e.1,rfl⟩⟩
 cases op with
 | move y=>exact ⟨e.2.symm,fun h' _=>⟨e.1,rfl⟩⟩
 | assign y=>exact ⟨e.2.symm,fun h' _=>⟨e.1,rfl⟩⟩
 | pick c y z=>
   simp only [fG,aop] at e ⊢
   cases hc:aev G env c with
   | b t=>rw [hc] at e; exact ⟨e.2.symm,fun h' _=>⟨e.1,rfl⟩⟩
   | _=>rw [hc] at e; exact e.elim
 | load T y=>
   simp only [fG,aop] at e ⊢
   exact fin (q:=fun h=>wX P T h (aev G env y)) e (fun h' hs v hv=>aNc (hs y (by simp [Op.operands])) hv)
 | nilCheck y=>
   simp only [fG,aop] at e ⊢
   cases hy:aev G env y with
   | ptr id off=>
     rw [hy] at e
     simp only at e ⊢
     cases ho:h[id]? with
     | none=>rw [ho] at e; exact e.elim
     | some ob=>
       rw [ho] at e
       cases ob with
       | box fz c=>
         refine ⟨e.2.symm,fun h' hs=>?_⟩
         obtain ⟨ob',h1,h2⟩:=iZ (hs y (by simp [Op.operands]) id (by rw [hy]; rfl)) ho
         obtain ⟨fz',rfl⟩:=uV h2 rfl
         rw [h1]; exact ⟨e.1,rfl⟩
       | arr fz k c=>
         refine ⟨e.2.symm,fun h' hs=>?_⟩
         obtain ⟨ob',h1,h2⟩:=iZ (hs y (by simp [Op.operands]) id (by rw [hy]; rfl)) ho
         obtain ⟨fz',rfl⟩:=lW h2 rfl
         rw [h1]; exact ⟨e.1,rfl⟩
       | held m q=>
         cases m with
         | true=>exact e.elim
         | false=>
           refine ⟨e.2.symm,fun h' hs=>?_⟩
           obtain ⟨ob',h1,h2⟩:=iZ (hs y (by simp [Op.operands]) id (by rw [hy]; rfl)) ho
           obtain rfl:=M4 h2 rfl
           rw [h1]; exact ⟨e.1,rfl⟩
       | _=>exact e.elim
   | box c off=>rw [hy] at e; exact ⟨e.2.symm,fun h' _=>⟨e.1,rfl⟩⟩
   | fn f a b=>rw [hy] at e; exact ⟨e.2.symm,fun h' _=>⟨e.1,rfl⟩⟩
   | _=>rw [hy] at e; exact e.elim
 | binOp op T y z U=>simp only [fG,aop] at e ⊢; exact const e
 | unOp op T y=>simp only [fG,aop] at e ⊢; exact const e
 | convert S T y=>simp only [fG,aop] at e ⊢; exact const e
 | makeFunc fn a b=>
   cases fn with
   | func f=>exact ⟨e.2.symm,fun h' _=>⟨e.1,rfl⟩⟩
   | _=>exact e.elim
 | slice T y l hi m=>
   simp only [fG,aop] at e ⊢
   exact fin (q:=fun h=>rF P h T (aev G env y) (l.map (aev G env)) (hi.map (aev G env)) (m.map (aev G env))) e (fun h' hs v hv=>aFt (hs y (by simp [Op.operands])) hv)
 | fieldAddr S y f=>
   simp only [fG,aop] at e ⊢
   cases hf:kB P S f with
   | none=>rw [hf] at e; exact e.elim
   | some q=>
     obtain ⟨fo,ft⟩:=q
     rw [hf] at e
     simp only at e ⊢
     cases hsz:kH P ft with
     | none=>rw [hsz] at e; exact e.elim
     | some n=>
       rw [hsz] at e
       cases n with
       | zero=>exact e.elim
       | succ n=>
         simp only at e ⊢
         cases hy:aev G env y with
         | ptr id off=>
           rw [hy] at e
           simp only at e ⊢
           cases ho:h[id]? with
           | none=>rw [ho] at e; exact e.elim
           | some ob=>
             rw [ho] at e
             cases ob with
             | box fz c=>
               refine ⟨e.2.symm,fun h' hs=>?_⟩
               obtain ⟨ob',h1,h2⟩:=iZ (hs y (by simp [Op.operands]) id (by rw [hy]; rfl)) ho
               obtain ⟨fz',rfl⟩:=uV h2 rfl
               rw [h1]; exact ⟨e.1,rfl⟩
             | arr fz k c=>
               refine ⟨e.2.symm,fun h' hs=>?_⟩
               obtain ⟨ob',h1,h2⟩:=iZ (hs y (by simp [Op.operands]) id (by rw [hy]; rfl)) ho
               obtain ⟨fz',rfl⟩:=lW h2 rfl
               rw [h1]; exact ⟨e.1,rfl⟩
             | held m q=>
               cases m with
               | true=>exact e.elim
               | false=>
                 refine ⟨e.2.symm,fun h' hs=>?_⟩
                 obtain ⟨ob',h1,h2⟩:=iZ (hs y (by simp [Op.operands]) id (by rw [hy]; rfl)) ho
                 obtain rfl:=M4 h2 rfl
                 rw [h1]; exact ⟨e.1,rfl⟩
             | _=>exact e.elim
         | box c off=>rw [hy] at e; exact ⟨e.2.symm,fun h' _=>⟨e.1,rfl⟩⟩
         | _=>rw [hy] at e; exact e.elim
 | field T y f=>
   simp only [fG,aop] at e ⊢
   cases hy:aev G env y with
   | agg cs=>
     rw [hy] at e
     cases hf:kB P T f with
     | none=>rw [hf] at e; exact e.elim
     | some q=>rw [hf] at e; exact const e
   | _=>rw [hy] at e; exact e.elim
 | indexAddr T y i=>
   simp only [fG,aop] at e ⊢
   exact fin (q:=fun h=>iM P h T (aev G env y) (aev G env i)) e (fun h' hs v hv=>I9 (hs y (by simp [Op.operands])) hv)
 | index T y i=>simp only [fG,aop] at e ⊢; exact const e
 | lookup T m k ok=>
   simp only [fG,aop] at e ⊢
   exact fin (q:=fun h=>nK P h T (aev G env m) (aev G env k) ok) e (fun h' hs v hv=>aCp (hs m (by simp [Op.operands])) hv)
 | extract y i=>
   simp only [fG,aop] at e ⊢
   cases hy:aev G env y with
   | tup vs=>rw [hy] at e; exact const e
   | _=>rw [hy] at e; exact e.elim
 | build T ps=>
   simp only [fG,aop] at e ⊢
   cases hp:gQ P T with
   | none=>rw [hp] at e; exact e.elim
   | some pl=>
     cases hz:zeroOf P T with
     | none=>rw [hp,hz] at e; exact e.elim
     | some z=>
       rw [hp,hz] at e
       simp only at e ⊢
       cases hf:mG (fun i=>pl[i]?) z (ps.toList.map fun (i,x)=>(i,aev G env x)) with
       | none=>rw [hf] at e; exact e.elim
       | some cs=>rw [hf] at e; exact ⟨e.2.symm,fun h' _=>⟨e.1,rfl⟩⟩
 | call c=>
   simp only [rOp] at hk
   cases hc:c.callee with
   | builtin b =>
     rw [hc] at hk
     cases b <;> simp at hk
     simp only [fG,nR,hc,jF] at e ⊢
     cases hty:c.argTypes.toList with
     | nil=>rw [hty] at e; exact e.elim
     | cons T ts=>
       cases ts with
       | cons=>rw [hty] at e; exact e.elim
       | nil =>
         cases hl:c.args.toList with
         | nil=>rw [hty,hl] at e; exact e.elim
         | cons y l=>
           cases l with
           | cons=>rw [hty,hl] at e; exact e.elim
           | nil=>
             rw [hty,hl] at e
             simp only [aT,bN] at e ⊢
             cases ha:aUv P h T (aev G env y) with
             | none=>rw [ha] at e; exact e.elim
             | some n=>
               rw [ha] at e
               refine ⟨e.2.symm,fun h' hs=>?_⟩
               rw [aUu (hs y (by simp [Op.operands,Call.operands,hc,hl])) ha]
               exact ⟨e.1,rfl⟩
   | _=>rw [hc] at hk; simp at hk
 | _=>simp [rOp] at hk
end

def bWx (ops:List Oper):List (List Nat):=
 ops.foldl (fun acc o=>acc++[(List.range acc.length).filter fun k=>(anyPre o).contains k || (anyPre o).any fun e=>(acc.getD e []).contains k]) []

def G1 (rx:RX) (ops:Array Oper) (bs:List (List Nat)) (i:Nat) (p:Oper):Bool:=
 (dk rx ops p).isSome && ((anyPre p).all (fun e=>decide (e < i)) && (bs.getD i []).all (fun k=>(anyPre p).contains k || (anyPre p).any fun e=>(bs.getD e []).contains k))

def T4 (rx:RX) (ops:Array Oper) (bs:List (List Nat)) (i j:Nat) (p q:Oper):Bool:=
 i == j || (p.dst.all (fun d=>q.dst != some d) && ((bs.getD j []).contains i || ((bs.getD i []).contains j || indepOK rx ops p q)))

def aSo (rx:RX) (ops:Array Oper) (bs:List (List Nat)):Bool:=
 (List.range ops.size).all fun i=>match ops[i]? with
   | Option.none=>true
   | some p=>G1 rx ops bs i p && (List.range ops.size).all fun j=>match ops[j]? with
       | Option.none=>true
       | some q=>T4 rx ops bs i j p q

def O8 (rx:RX) (ops:Array Oper):Bool:=aSo rx ops (bWx ops.toList)

def sC (ops:Array Oper):List Oper:=ops.toList.filter iN++ops.toList.filter fun o => !iN o

structure DOK (rx:RX) (ops:Array Oper) (B:Nat→Nat→Prop):Prop where
 kind:∀ (i:Nat) (o:Oper),ops[i]? = some o→(dk rx ops o).isSome=true
 lt:∀ (i:Nat) (o:Oper),ops[i]? = some o→∀ e,e ∈ anyPre o→e < i
 clo:∀ (i:Nat) (o:Oper),ops[i]? = some o→∀ k,B k i→k ∈ anyPre o∨∃ e,e ∈ anyPre o∧B k e
 dst:∀ (i j:Nat) (p q:Oper),ops[i]? = some p→ops[j]? = some q→i ≠ j→∀ d,p.dst=some d→q.dst ≠ some d
 ind:∀ (i j:Nat) (p q:Oper),ops[i]? = some p→ops[j]? = some q→i ≠ j→B i j∨B j i∨indepOK rx ops p q=true

theorem bDd {rx:RX} {ops:Array Oper} (h:O8 rx ops=true):DOK rx ops (fun k i=>k ∈ (bWx ops.toList).getD i []):=by
 generalize hb:bWx ops.toList=bs
 have h:aSo rx ops bs=true:=by rw [← hb]; exact h
 unfold aSo at h
 rw [aN] at h
 have h1:∀ i p,ops[i]? = some p→G1 rx ops bs i p=true∧∀ j q,ops[j]? = some q→T4 rx ops bs i j p q=true:=by
   intro i p hp
   have hi:i < ops.size:=(aW.1 hp).1
   have:=h i (iQ.2 hi)
   simp only [hp,aA,aN] at this
   refine ⟨this.1,fun j q hq=>?_⟩
   have h2:=this.2 j (iQ.2 (aW.1 hq).1)
   simp only [hq] at h2
   exact h2
 refine ⟨?_,?_,?_,?_,?_⟩
 · intro i o ho
   have:=(h1 i o ho).1
   simp only [G1,aA] at this
   exact this.1
 · intro i o ho e he
   have:=(h1 i o ho).1
   simp only [G1,aA,aN] at this
   exact of_decide_eq_true (this.2.1 e he)
 · intro i o ho k hk
   have:=(h1 i o ho).1
   simp only [G1,aA,aN] at this
   have:=this.2.2 k hk
   simpa using this
 · intro i j p q hp hq hne d hd
   have:=(h1 i p hp).2 j q hq
   simp only [T4,bJ,beq_iff_eq,hne,false_or,aA] at this
   have:=this.1
   rw [hd] at this
   simpa using this
 · intro i j p q hp hq hne
   have:=(h1 i p hp).2 j q hq
   simp only [T4,bJ,beq_iff_eq,hne,false_or,aA] at this
   simpa using this.2

section
variable {rx:RX} {ops:Array Oper} {B:Nat→Nat→Prop}

theorem DOK.blt (D:DOK rx ops B):∀ (i:Nat) (o:Oper),ops[i]? = some o→∀ k,B k i→k < i:=by
 intro i
 induction i using Nat.strongRecOn with
 | ind i ih=>
   intro o ho k hk
   rcases D.clo i o ho k hk with h | ⟨e,he,hb⟩
   · exact D.lt i o ho k h
   · have hlt:=D.lt i o ho e he
     have hi:i < ops.size:=(aW.1 ho).1
     have:=ih e hlt ops[e] (by simp) k hb
     omega

def Closed (ops:Array Oper) (S:Nat→Prop):Prop:=∀ (i:Nat) (o:Oper),S i→ops[i]? = some o→∀ e,e ∈ anyPre o→S e

theorem DOK.before (D:DOK rx ops B) {S:Nat→Prop} (cl:Closed ops S):∀ (i:Nat) (o:Oper),ops[i]? = some o→(∀ e,e ∈ anyPre o→S e)→∀ k,B k i→S k:=by
 intro i
 induction i using Nat.strongRecOn with
 | ind i ih=>
   intro o ho hpre k hk
   rcases D.clo i o ho k hk with h | ⟨e,he,hb⟩
   · exact hpre k h
   · have hlt:=D.lt i o ho e he
     have hi:i < ops.size:=(aW.1 ho).1
     exact ih e hlt ops[e] (by simp) (cl e ops[e] (hpre e he) (by simp)) k hb

theorem pH {p q:Oper} (h:indepOK rx ops p q=true):(∀ d,p.dst=some d→d ∉ ouses ops q)∧(∀ d,q.dst=some d→d ∉ ouses ops p)∧∃ a b,dk rx ops p=some a∧dk rx ops q=some b∧(E7 a b=true∨K0 rx ops p q=true):=by
 unfold indepOK at h
 simp only [aA] at h
 obtain ⟨⟨h1,h2⟩,h3⟩:=h
 refine ⟨?_,?_,?_⟩
 · intro d hd; rw [hd] at h1; simpa using h1
 · intro d hd; rw [hd] at h2; simpa using h2
 · cases ha:dk rx ops p with
   | none=>rw [ha] at h3; simp at h3
   | some a=>
     cases hb:dk rx ops q with
     | none=>rw [ha,hb] at h3; simp at h3
     | some b=>
       rw [ha,hb] at h3
       simp only [bJ,Option.isSome_some,Bool.true_and] at h3
       exact ⟨a,b,rfl,rfl,h3⟩

def mS (ops:Array Oper) (i:Nat):Option Nat:=(ops[i]?).bind (·.dst)

def xU (ops:Array Oper) (x:Nat→AV) (L:List Nat) (env:List AV):List AV:=L.foldl (fun e i=>gN e (mS ops i) (x i)) env

theorem DOK.one (D:DOK rx ops B) {i j d:Nat} (hi:mS ops i=some d) (hj:mS ops j=some d):i=j:=by
 by_cases h:i=j
 · exact h
 · exfalso
   unfold mS at hi hj
   cases hp:ops[i]? with
   | none=>rw [hp] at hi; cases hi
   | some p=>
     cases hq:ops[j]? with
     | none=>rw [hq] at hj; cases hj
     | some q=>
       rw [hp] at hi; rw [hq] at hj
       exact D.dst i j p q hp hq h d hi hj

def EnvIs (ops:Array Oper) (x:Nat→AV) (env:List AV) (S:Nat→Prop) (e:List AV):Prop:=
 e.length=env.length∧∀ t,(∃ i,S i∧mS ops i=some t∧t < env.length∧e.getD t .u=x i)∨((∀ i,S i→mS ops i=some t→env.length≤t)∧e.getD t .u=env.getD t .u)

variable {x:Nat→AV} {env:List AV}

theorem EnvIs.congr {S S':Nat→Prop} {e:List AV} (h:EnvIs ops x env S e) (hs:∀ i,S i↔S' i):EnvIs ops x env S' e:=by
 have:S=S':=funext fun i=>propext (hs i)
 exact this ▸ h

theorem EnvIs.agree (D:DOK rx ops B) {S S':Nat→Prop} {e e':List AV} (h:EnvIs ops x env S e) (h':EnvIs ops x env S' e') (t:Nat) (ha:∀ i,mS ops i=some t→(S i↔S' i)):e.getD t .u=e'.getD t .u:=by
 rcases h.2 t with ⟨i,s,hd,hl,hx⟩ | ⟨hn,hx⟩
 · rcases h'.2 t with ⟨i',s',hd',hl',hx'⟩ | ⟨hn',hx'⟩
   · have:=D.one hd hd'; subst this; rw [hx,hx']
   · have:=hn' i ((ha i hd).1 s) hd; omega
 · rcases h'.2 t with ⟨i',s',hd',hl',hx'⟩ | ⟨hn',hx'⟩
   · have:=hn i' ((ha i' hd').2 s') hd'; omega
   · rw [hx,hx']

theorem EnvIs.unique (D:DOK rx ops B) {S:Nat→Prop} {e e':List AV} (h:EnvIs ops x env S e) (h':EnvIs ops x env S e'):e=e':=by
 apply X4 (h.1.trans h'.1.symm)
 intro t h1 h2
 have:=h.agree D h' t (fun i _=>Iff.rfl)
 simpa [List.getD,h1,h2] using this

theorem EnvIs.start:EnvIs ops x env (fun _=>False) env:=⟨rfl,fun t=>.inr ⟨fun i h=>h.elim,rfl⟩⟩

theorem EnvIs.step (D:DOK rx ops B) {S:Nat→Prop} {e:List AV} (h:EnvIs ops x env S e) (i:Nat):EnvIs ops x env (fun k=>S k∨k=i) (gN e (mS ops i) (x i)):=by
 cases hd:mS ops i with
 | none=>
   refine ⟨h.1,fun t=>?_⟩
   rcases h.2 t with ⟨k,s,hk,hl,hx⟩ | ⟨hn,hx⟩
   · exact .inl ⟨k,.inl s,hk,hl,hx⟩
   · refine .inr ⟨?_,hx⟩
     rintro k (s | rfl) hk
     · exact hn k s hk
     · rw [hd] at hk; cases hk
 | some d=>
   refine ⟨by simp [gN,h.1],fun t=>?_⟩
   by_cases ht:d=t
   · subst ht
     by_cases hl:d < env.length
     · exact .inl ⟨i,.inr rfl,hd,hl,by simp [gN,List.getD,h.1,hl]⟩
     · refine .inr ⟨fun k _ _=>by omega,?_⟩
       simp [gN,List.getD,jQ (Nat.le_of_not_lt hl),jQ (l:=e.set d (x i)) (i:=d) (by simp [h.1]; omega)]
   · have hg:(gN e (some d) (x i)).getD t .u=e.getD t .u:=by simp [gN,List.getD,dA ht]
     rw [hg]
     rcases h.2 t with ⟨k,s,hk,hl,hx⟩ | ⟨hn,hx⟩
     · exact .inl ⟨k,.inl s,hk,hl,hx⟩
     · refine .inr ⟨?_,hx⟩
       rintro k (s | rfl) hk
       · exact hn k s hk
       · rw [hd] at hk; cases hk; exact absurd rfl ht

theorem EnvIs.many (D:DOK rx ops B):∀ (L:List Nat) {S:Nat→Prop} {e:List AV},EnvIs ops x env S e→EnvIs ops x env (fun k=>S k∨k ∈ L) (xU ops x L e)
 | [],S,e,h=>h.congr (fun i=>by simp)
 | i::L,S,e,h=>by
   have:=EnvIs.many D L (h.step D i)
   exact this.congr (fun k=>by simp [or_assoc])

theorem aIm (D:DOK rx ops B) (L:List Nat):EnvIs ops x env (fun k=>k ∈ L) (xU ops x L env):=(EnvIs.many D L EnvIs.start).congr (fun k=>by simp)
end

section
variable {P:Program} {G:fS} {rx:RX} {N:DR} {ops:Array Oper}

inductive OM where
 | n
 | v
 | z
def omOf (rx:RX) (ops:Array Oper) (o:Oper):OM:=if vOf rx ops o=true then .v else if zOf rx o=true then .z else .n
def DOc (P:Program) (G:fS) (N:DR) (m:OM) (op:Op) (env:List AV) (h:List AObj) (x:AV) (h':List AObj):Prop:=
 match m with
 | .v=>(∃ T len ps,op=.buildSlice T len ps∧aMw P (aev G env) T len ps=some x)∧h'=h
 | .z=>(∃ f as ts,op=.call ⟨.value f,as,ts⟩)∧fG P G false op (fun x1 h1=>x1=x∧h1=h') env h∧lS N h h'
 | .n=>DOp P G op env h x h'
theorem bMh {o:Oper} (h1:vOf rx ops o=false) (h2:zOf rx o=false):omOf rx ops o=.n:=by simp [omOf,h1,h2]
theorem aGf {o:Oper} (h:vOf rx ops o=true):∃ T len ps,o.op=.buildSlice T len ps∧o.guard=Option.none:=by
 unfold vOf aLv at h
 simp only [aA] at h
 have h2:=h.2
 split at h2
 · rename_i T len ps ho
   rw [aA,Option.isNone_iff_eq_none] at h2
   exact ⟨T,len,ps,ho,h2.1⟩
 · cases h2
theorem bRy {o:Oper} {N:DR}:((vOp (some N) (ckF rx ops o) o.op).isSome=true)↔vOf rx ops o=true:=by
 constructor
 · intro h
   unfold vOp at h
   split at h
   · rename_i T len ps ho
     have hk:ckF rx ops o=true:=by
       cases hc:ckF rx ops o with
       | true=>rfl
       | false=>rw [hc] at h; simp at h
     unfold ckF at hk
     have h1:ckX rx ops o=false:=by unfold ckX bRw bKp; rw [ho]; simp
     have h2:zOf rx o=false:=by unfold zOf; rw [ho]
     rw [h1,h2] at hk
     simpa using hk
   · cases h
 · intro h
   obtain ⟨T,len,ps,ho,_⟩:=aGf h
   have hk:ckF rx ops o=true:=by unfold ckF; rw [h]; simp
   rw [ho,hk]; rfl
theorem X8 {o:Oper} (h:zOf rx o=true):∃ f as ts,o.op=.call ⟨.value f,as,ts⟩:=by
 unfold zOf at h
 split at h
 · rename_i f as ts ho; exact ⟨f,as,ts,ho⟩
 · cases h
theorem bRx {o:Oper} {N:DR}:((zOp (some N) (ckF rx ops o) o.op).isSome=true)↔zOf rx o=true:=by
 constructor
 · intro h
   unfold zOp at h
   split at h
   · rename_i f as ts ho
     have hk:ckF rx ops o=true:=by
       cases hc:ckF rx ops o with
       | true=>rfl
       | false=>rw [hc] at h; simp at h
     unfold ckF at hk
     have h1:ckX rx ops o=false:=by unfold ckX bRw bKp; rw [ho]; simp
     have h2:vOf rx ops o=false:=by unfold vOf aLv; rw [ho]; simp
     rw [h1,h2] at hk
     simpa using hk
   · cases h
 · intro h
   obtain ⟨f,as,ts,ho⟩:=X8 h
   have hk:ckF rx ops o=true:=by unfold ckF; rw [h]; simp
   rw [ho,hk]; rfl
theorem aGp {o:Oper} {N:DR} {K:AV→List AObj→Prop} {env:List AV} {h:List AObj} (e:aVc P G (some N) (ckF rx ops o) o.op K env h):∃ x h',DOc P G N (omOf rx ops o) o.op env h x h'∧K x h':=by
 unfold aVc at e
 cases hv:vOp (some N) (ckF rx ops o) o.op with
 | none=>
   rw [hv] at e
   have hf:vOf rx ops o=false:=by
     cases hq:vOf rx ops o with
     | false=>rfl
     | true=>have:=(bRy (N:=N)).2 hq; rw [hv] at this; cases this
   simp only at e
   cases hz:zOp (some N) (ckF rx ops o) o.op with
   | none=>
     rw [hz] at e
     have hf2:zOf rx o=false:=by
       cases hq:zOf rx o with
       | false=>rfl
       | true=>have:=(bRx (ops:=ops) (N:=N)).2 hq; rw [hz] at this; cases this
     rw [bMh hf hf2]
     exact bAt.1 (Z9 ▸ e)
   | some q=>
     obtain ⟨c,N'⟩:=q
     rw [hz] at e
     have ht:zOf rx o=true:=(bRx (ops:=ops) (N:=N)).1 (by rw [hz]; rfl)
     have hm:omOf rx ops o=.z:=by simp [omOf,hf,ht]
     obtain ⟨x,h',hd,hg,hK⟩:=e
     have hop:=(aNk hz).1
     have hN:N=N':=by have:=(aNk hz).2.2; simpa using this
     subst hN
     exact ⟨x,h',by rw [hm]; exact ⟨X8 ht,hop ▸ hd,hg⟩,hK⟩
 | some q=>
   obtain ⟨T,len,ps⟩:=q
   rw [hv] at e
   have ht:vOf rx ops o=true:=(bRy (N:=N)).1 (by rw [hv]; rfl)
   have hm:omOf rx ops o=.v:=by simp [omOf,ht]
   simp only at e
   cases ha:aMw P (aev G env) T len ps with
   | none=>rw [ha] at e; exact e.elim
   | some y=>
     rw [ha] at e
     exact ⟨y,h,by rw [hm]; exact ⟨⟨T,len,ps,(bBy hv).1,ha⟩,rfl⟩,e⟩
def OpD (P:Program) (G:fS) (N:DR) (rx:RX) (ops:Array Oper) (o:Oper) (env:List AV) (h:List AObj) (x:AV) (h':List AObj):Prop:=
 aMj G (some N) (ckF rx ops o) o.op env∧DOc P G N (omOf rx ops o) o.op env h x h'

def OpAt (P:Program) (G:fS) (N:DR) (rx:RX) (ops:Array Oper) (o:Oper) (env:List AV) (h:List AObj) (x:AV) (h':List AObj):Prop:=
 match o.guard with
 | Option.none=>OpD P G N rx ops o env h x h'
 | some (j,want)=>∃ d b,mS ops j=some d∧yR (env.getD d .u) want=.b b∧(b=true→OpD P G N rx ops o env h x h')∧(b=false→x=.tup []∧h'=h)

theorem uH {x x':Nat→AV}:∀ (L:List Nat) (env:List AV),(∀ i ∈ L,x i=x' i)→xU ops x L env=xU ops x' L env
 | [],env,h=>rfl
 | i::L,env,h=>by
   simp only [xU,iW]
   rw [h i (by simp)]
   exact uH L _ (fun k hk=>h k (by simp [hk]))

theorem bLi {K:List AV→List AObj→Prop}:∀ (L:List Nat) (al:List fZ) (env:List AV) (h:List AObj),(∀ i ∈ L,i < ops.size)→L.Nodup→eJ rx ops (L.filterMap (ops[·]?))=some al→dG P G (some N) al K env h →
   ∃ (x:Nat→AV) (hh:Nat→List AObj),hh 0=h∧K (xU ops x L env) (hh L.length)∧∀ (p i:Nat) (o:Oper),L[p]? = some i→ops[i]? = some o→OpAt P G N rx ops o (xU ops x (L.take p) env) (hh p) (x i) (hh (p+1))
 | [],al,env,h,_,_,hs,e=>by
   simp only [List.filterMap_nil,eJ,aB] at hs
   subst hs
   exact ⟨fun _=>.u,fun _=>h,rfl,e,fun p i o hp=>by simp at hp⟩
 | i :: L, al,env,h,hlt,hnd,hs,e=>by
   have hi:i < ops.size:=hlt i (by simp)
   have ho:ops[i]? = some ops[i]:=by simp [hi]
   rw [kY,ho] at hs
   simp only [eJ] at hs
   cases hso:jV rx ops ops[i] with
   | none=>simp [hso] at hs
   | some ao=>
   cases hl:eJ rx ops (L.filterMap (ops[·]?)) with
   | none=>simp [hso,hl] at hs
   | some al'=>
   simp only [hso,hl,aB] at hs
   subst hs
   have hd:ao.dst=mS ops i∧ao.op=ops[i].op∧ao.ck=ckF rx ops ops[i]:=by
     unfold jV at hso
     split at hso
     · cases hso; simp [mS,ho]
     · split at hso
       · cases hso; simp [mS,ho]
       · cases hso
   have key:∃ xi hi',dG P G (some N) al' K (gN env (mS ops i) xi) hi'∧OpAt P G N rx ops ops[i] env h xi hi':=by
     simp only [dG] at e
     unfold jV at hso
     unfold OpAt
     cases hg:ops[i].guard with
     | none=>
       simp only [hg,aB] at hso
       subst hso
       simp only at e
       obtain ⟨xi,hi',hD,hK⟩:=aGp e.2
       exact ⟨xi,hi',by simpa [mS,ho] using hK,e.1,hD⟩
     | some q=>
       obtain ⟨j,want⟩:=q
       simp only [hg] at hso
       cases hdj:(ops[j]?).bind (·.dst) with
       | none=>simp [hdj] at hso
       | some d=>
         simp only [hdj,aB] at hso
         subst hso
         simp only at e
         cases hx:yR (env.getD d .u) want with
         | b b=>
           rw [hx] at e
           simp only [qP] at e
           cases b with
           | true=>
             obtain ⟨xi,hi',hD,hK⟩:=aGp (e.1 rfl).2
             exact ⟨xi,hi',by simpa [mS,ho] using hK,d,true,hdj,hx,(fun _=>⟨(e.1 rfl).1,hD⟩),(fun hf=>by cases hf)⟩
           | false=>exact ⟨.tup [],h,by simpa [mS,ho] using e.2 rfl,d,false,hdj,hx,(fun hf=>by cases hf),(fun _=>⟨rfl,rfl⟩)⟩
         | _=>rw [hx] at e; exact e.elim
   obtain ⟨xi,hi',e',hat⟩:=key
   have hnd':=iV.1 hnd
   obtain ⟨x,hh,h0,hK,htr⟩:=bLi L al' _ hi' (fun k hk=>hlt k (by simp [hk])) hnd'.2 hl e'
   have hx:∀ k ∈ L,x k=(fun k=>if k=i then xi else x k) k:=by
     intro k hk
     have:k ≠ i:=fun he=>hnd'.1 (he ▸ hk)
     simp [this]
   refine ⟨fun k=>if k=i then xi else x k,fun p=>match p with | 0=>h | p+1=>hh p,rfl,?_,?_⟩
   · simp only [xU,iW,if_true,aI]
     have:=uH (ops:=ops) L (gN env (mS ops i) xi) hx
     simp only [xU] at this hK
     rw [← this]; exact hK
   · intro p k o hp hk
     cases p with
     | zero=>
       simp only [cN,aB] at hp
       subst hp
       rw [ho] at hk; cases hk
       simp only [nS,xU,List.foldl_nil,if_true,h0]
       exact hat
     | succ p=>
       simp only [dL] at hp
       have:=htr p k o hp hk
       have hkL:k ∈ L:=cP hp
       have hne:k ≠ i:=fun he=>hnd'.1 (he ▸ hkL)
       simp only [eO,xU,iW,if_true,hne,if_false]
       have hc:=uH (ops:=ops) (L.take p) (gN env (mS ops i) xi) (fun k hk=>hx k (nN hk))
       simp only [xU] at hc this
       rw [← hc]; exact this
end

structure bSw (X:Ctx) (w:World) (h:List AObj) (X':Ctx) (w':World):Prop where
 fr:∀ b,X.F b→X'.F b
 keep:∀ b,X.F b→w'.heap[b]? = w.heap[b]?
 shp:∀ b s,w.shape? b=some s→w'.shape? b=some s
 obj:∀ id bo,X.ι id=some bo→X'.ι id=some bo

theorem RV.monoW {X X':Ctx} {w w':World} {h:List AObj} {a:AV} {v:Value} (r:RV X w h a v) (e:bSw X w h X' w'):RV X' w' h a v:=by
 induction r with
 | u v=>exact .u v
 | b x=>exact .b x
 | i k n=>exact .i k n
 | s l=>exact .s l
 | p v hv=>exact .p v hv
 | e0 a=>exact .e0 a
 | sl0 a cap=>exact .sl0 a cap
 | sl hF hb hl hc h1 _ ih=>exact .sl (e.fr _ hF) ((e.keep _ hF).trans hb) hl hc h1 ih
 | hs hid hι hsh hn hc hN ht hf=>exact .hs hid (e.obj _ _ hι) (e.shp _ _ hsh) hn hc hN ht hf
 | hs0 hid hf ho=>exact .hs0 hid hf ho
 | ptr hid hnd hι=>exact .ptr hid hnd (e.obj _ _ hι)
 | mp hid hι=>exact .mp hid (e.obj _ _ hι)
 | dead hr hid hv=>exact .dead hr hid hv
 | box hF hb hl h1 _ ih=>exact .box (e.fr _ hF) ((e.keep _ hF).trans hb) hl h1 ih
 | mapv hF hb hk hv _ _ hbn hbd ihk ihv=>exact .mapv (e.fr _ hF) ((e.keep _ hF).trans hb) hk hv ihk ihv hbn hbd
 | fn h1 h2 _ _ ih1 ih2=>exact .fn h1 h2 ih1 ih2
 | agg h1 h2 _ ih=>exact .agg h1 h2 ih
 | tup h1 _ ih=>exact .tup h1 ih

theorem GRel.monoW {X X':Ctx} {w w':World} {h:List AObj} {k:Nat} {a:AV} (r:GRel X w h k a) (e:bSw X w h X' w'):GRel X' w' h k a:=
 ⟨r.1.monoW e,fun cells off ha=>have ⟨hF,cs,T,fr,h1,h2⟩:=r.2 cells off ha; ⟨e.fr _ hF,cs,T,fr,(e.keep _ hF).trans h1,h2⟩⟩
theorem ObjOK.monoW {X X':Ctx} {w w':World} {h:List AObj} {id:Nat} {ob:AObj} (r:ObjOK X w h id ob) (e:bSw X w h X' w')
   (hι:X'.ι id=X.ι id) (hb:∀ b o,X.ι id=some (b,o)→w'.heap[b]? = w.heap[b]?) (hF:∀ b o,X.ι id=some (b,o)→X'.F b→X.F b):ObjOK X' w' h id ob:=by
 cases r with
 | absent h0 hh=>exact .absent (hι.trans h0) hh
 | away h0 h1=>exact .away (hι.trans h0) h1
 | box h0 h1 h2 h3 h4 h5 h6=>exact .box (hι.trans h0) ((hb _ _ h0).trans h1) (fun f=>e.fr _ (h2 f)) (fun f=>⟨fun g=>(h3 f).1 (hF _ _ h0 g),(h3 f).2⟩) h4 h5 (fun j a v ha hv=>(h6 j a v ha hv).monoW e)
 | arr h0 h1 h2 h3 h4 h5 h6=>exact .arr (hι.trans h0) ((hb _ _ h0).trans h1) (fun f=>e.fr _ (h2 f)) (fun f=>⟨fun g=>(h3 f).1 (hF _ _ h0 g),(h3 f).2⟩) h4 h5 (fun j a v ha hv=>(h6 j a v ha hv).monoW e)
 | map h0 h1 h2 h3 h4 h5 h6 h7 h8 h9=>exact .map (hι.trans h0) ((hb _ _ h0).trans h1) (fun f=>e.fr _ (h2 f)) (fun f g=>h3 f (hF _ _ h0 g)) h4 h5 (fun j a v ha hv=>(h6 j a v ha hv).monoW e) (fun j a v ha hv=>(h7 j a v ha hv).monoW e) h8 h9
 | held h0 h1 h2 h3=>exact .held (hι.trans h0) (fun g=>h1 (hF _ _ h0 g)) ((hb _ _ h0).trans h2) h3
 | sit h0 h1 h2=>exact .sit (hι.trans h0) (fun g=>h1 (hF _ _ h0 g)) ((hb _ _ h0).trans h2)
 | mit h0 h1 h2 h3 h4 h5 h6 h7 h8 h9 h10 h11=>exact .mit (hι.trans h0) (fun g=>h1 (hF _ _ h0 g)) ((hb _ _ h0).trans h2) (e.fr _ h3) ((e.keep _ h3).trans h4) h5 h6 h7 h8 (fun j a v ha hv=>(h9 j a v ha hv).monoW e) (fun j a v ha hv=>(h10 j a v ha hv).monoW e) (fun k v hc=>have ⟨e1,a1,a2,a3,a4⟩:=h11 k v hc; ⟨e1,a1,a2,a3.monoW e,a4.monoW e⟩)

section
variable {G:fS} {X:Ctx} {w w':World} {h:List AObj}

theorem bHx (g:GH G X w h) {cs:Array Value} {T:TypeId} (p:gO w w' (.cells cs T (0,0))) {id:Nat} {cells:List AV} (hid:h[id]? = some (.box false cells)) (hι:X.ι id=Option.none)
   (hl:cs.size=cells.length) (h1:nO cs) (hr:∀ (j:Nat) (x:AV) (u:Value),cells[j]? = some x→cs[j]? = some u→RV X w h x u) :
   bSw X w h (X.upd id (some (w.heap.size,0))) w'∧GH G (X.upd id (some (w.heap.size,0))) w' h∧Step X w (X.upd id (some (w.heap.size,0))) w':=by
 have pg:=p.grew
 have hs:=p.size
 have e:bSw X w h (X.upd id (some (w.heap.size,0))) w':=by
   refine ⟨fun b hb=>hb,fun b hb=>pg.old _ (g.fbnd b hb),fun b s hs=>?_,fun k bo hk=>?_⟩
   · rw [kP (pg.old _ (qD hs))]; exact hs
   · have:k ≠ id:=fun he=>by rw [he,hι] at hk; cases hk
     rw [Ctx.upd_other _ _ this]; exact hk
 refine ⟨e,⟨?_,?_,?_,?_,?_,fun k a hk=>(g.gl k a hk).monoW e⟩,⟨by omega,p.os,p.tape,p.output,fun b hb _=>pg.old b hb,?_,fun b hb=>.inl hb⟩⟩
 · intro k ob hk
   by_cases hki:k=id
   · subst hki
     rw [hid] at hk; cases hk
     refine .box (Ctx.upd_same _ _ _) p.at (fun f=>by cases f) (fun _=>⟨fun hF=>by have:=g.fbnd _ hF; omega,rfl⟩) (by omega) ?_ ?_
     · intro j v hj hv; exact h1 j v (by simpa using hv)
     · intro j a v ha hv; exact (hr j a v ha (by simpa using hv)).monoW e
   · exact (g.objs k ob hk).monoW e (Ctx.upd_other _ _ hki) (fun b o hb=>pg.old _ (g.bnd _ _ _ hb)) (fun _ _ _ f=>f)
 · intro k b hb
   by_cases hki:k=id
   · subst hki; exact ⟨_,hid⟩
   · rw [Ctx.upd_other _ _ hki] at hb
     exact g.dom _ _ hb
 · intro k k' b c c' h1 h2
   by_cases e1:k=id
   · by_cases e2:k'=id
     · omega
     · subst e1
       rw [Ctx.upd_same] at h1
       rw [Ctx.upd_other _ _ e2] at h2
       have:=g.bnd _ _ _ h2
       cases h1; omega
   · rw [Ctx.upd_other _ _ e1] at h1
     by_cases e2:k'=id
     · subst e2
       rw [Ctx.upd_same] at h2
       have:=g.bnd _ _ _ h1
       cases h2; omega
     · rw [Ctx.upd_other _ _ e2] at h2
       exact g.inj _ _ _ _ _ h1 h2
 · intro k b c h1
   by_cases e1:k=id
   · subst e1
     rw [Ctx.upd_same] at h1
     cases h1; omega
   · rw [Ctx.upd_other _ _ e1] at h1
     have:=g.bnd _ _ _ h1
     omega
 · intro b hb
   have:=g.fbnd b hb
   omega
 · intro k b c h1
   by_cases e1:k=id
   · subst e1
     rw [Ctx.upd_same] at h1
     cases h1; exact .inl (aZ _)
   · rw [Ctx.upd_other _ _ e1] at h1
     exact .inr ⟨k,c,h1⟩

theorem bHw (g:GH G X w h) (obs:List AObj) (hobs:∀ ob ∈ obs,ob.isH=false):GH G X w (h++obs)∧Tr X w h X w (h++obs):=by
 have e:Ext X w h X w (h++obs):=⟨fun _ h=>h,fun _ _=>rfl,fun _ _ h=>h,fun id o ho=>⟨o,by rw [aD (aQ ho)]; exact ho,.inr ⟨AObj.like_refl o,.inl rfl⟩⟩⟩
 refine ⟨⟨?_,?_,g.inj,g.bnd,g.fbnd,fun k a hk=>(g.gl k a hk).mono e⟩,⟨.refl _ _,e,fun id z hid _=>by rw [aD (aQ hid)]; exact hid⟩⟩
 · intro id ob hid
   by_cases hlt:id < h.length
   · rw [aD hlt] at hid
     exact (g.objs id ob hid).mono e rfl (fun _ _ _=>rfl) (fun _ _ _ f=>f)
   · refine .absent ?_ (hobs ob (by rw [aK (by omega)] at hid; exact cP hid))
     cases hi:X.ι id with
     | none=>rfl
     | some bo=>obtain ⟨ob',ho⟩:=g.dom _ _ hi; exact absurd (aQ ho) hlt
 · intro id bo hb
   obtain ⟨ob,ho⟩:=g.dom _ _ hb
   exact ⟨ob,by rw [aD (aQ ho)]; exact ho⟩

theorem bHv (g:GH G X w h) (hh:w'.heap=w.heap) (ho:w'.os=w.os) (ht:w'.tape=w.tape) (hu:w'.output=w.output):GH G X w' h∧Tr X w h X w' h:=by
 have e:Ext X w h X w' h:=⟨fun _ h=>h,fun _ _=>by rw [hh],fun b s hs=>by rw [kP (w:=w) (by rw [hh])]; exact hs,fun id o ho=>⟨o,ho,.inr ⟨AObj.like_refl o,.inl rfl⟩⟩⟩
 refine ⟨⟨fun id ob hid=>(g.objs id ob hid).mono e rfl (fun _ _ _=>by rw [hh]) (fun _ _ _ f=>f),g.dom,g.inj,fun id b o hb=>by rw [hh]; exact g.bnd id b o hb,fun b hb=>by rw [hh]; exact g.fbnd b hb,fun k a hk=>(g.gl k a hk).mono e⟩,
   ⟨⟨by rw [hh]; exact aZ _,ho,ht,hu,fun _ _ _=>by rw [hh],fun id b o hb=>.inr ⟨id,o,hb⟩,fun b hb=>.inl hb⟩,e,fun id z hid _=>hid⟩⟩
end

def A9 (h h':List AObj):Prop:=∀ (id:Nat) (o:AObj),h[id]? = some o→∃ o',h'[id]? = some o'∧o'.strip=o.strip
theorem A9.refl (h:List AObj):A9 h h:=fun id o ho=>⟨o,ho,rfl⟩
theorem A9.trans {a b c:List AObj} (x:A9 a b) (y:A9 b c):A9 a c:=fun id o ho=>by
 obtain ⟨o1,h1,e1⟩:=x id o ho
 obtain ⟨o2,h2,e2⟩:=y id o1 h1
 exact ⟨o2,h2,e2.trans e1⟩
theorem A9.app (h obs:List AObj):A9 h (h++obs):=fun id o ho=>⟨o,by rw [aD (aQ ho)]; exact ho,rfl⟩
theorem aVu (o:AObj):o.fz.strip=o.strip:=by cases o <;> rfl
theorem A9.freeze (ids:List Nat) (h:List AObj):A9 h (freeze ids h):=fun id o ho=>by
 rw [iT,ho]
 refine ⟨_,rfl,?_⟩
 split
 · exact aVu o
 · rfl

mutual
theorem aHr:∀ (a:AV) (h:List AObj),A9 h (mat a h).2
 | .own sz cells n,h=>by simp only [mat]; exact .app _ _
 | .agg cells,h=>by simp only [mat]; exact matL_grow cells h
 | .tup cells,h=>by simp only [mat]; exact matL_grow cells h
 | .u,h | .b _,h | .i _ _,h | .s _,h | .p _,h | .e0,h | .sl _ _,h | .hs _ _ _ _,h | .ptr _ _,h | .box _ _,h | .mp _,h | .mapv _ _,h | .fn _ _ _,h=>by simp only [mat]; exact .refl _
theorem matL_grow:∀ (l:List AV) (h:List AObj),A9 h (matL l h).2
 | [],h=>by simp only [matL]; exact .refl _
 | a::l,h=>by simp only [matL]; exact (aHr a h).trans (matL_grow l _)
end

theorem aEx (r:AV) (h:List AObj) (A:List AV):A9 h (gG r h A):=by
 unfold gG; split
 · exact .refl _
 · exact .freeze _ _

section
variable {P:Program} {G:fS}

theorem aBx {T:TypeId} {env:List AV} {h h':List AObj} {x:AV} (e:DOp P G (.alloc T) env h x h'):∃ z,zeroOf P T=some z∧x=.ptr h.length 0∧h'=h++[.box false z]:=by
 unfold DOp at e
 simp only [fG,aop] at e
 cases hz:zeroOf P T with
 | none=>rw [hz] at e; exact e.elim
 | some z=>rw [hz] at e; exact ⟨z,rfl,e.1.symm,e.2.symm⟩

theorem bLc {o:Oper} (hk:tE o=some .w) {env:List AV} {h h':List AObj} {x:AV} (e:DOp P G o.op env h x h'):A9 h h':=by
 unfold tE at hk
 cases ho:o.op with
 | alloc T=>
   rw [ho] at e
   obtain ⟨z,_,_,rfl⟩:=aBx e
   exact .app _ _
 | box T y=>
   rw [ho] at e
   unfold DOp at e
   simp only [fG,aop] at e
   cases hc:jJ (aev G env y) with
   | none=>rw [hc] at e; exact e.elim
   | some c=>rw [hc] at e; rw [← e.2]; exact .app _ _
 | buildSlice T n ps=>
   rw [ho] at e
   unfold DOp at e
   simp only [fG,aop] at e
   by_cases hcs:(true && aMh ps.toList)=true
   case pos=>
     rw [if_pos hcs] at e
     cases ha:bAv P T n ps with
     | none=>rw [ha] at e; exact e.elim
     | some v=>rw [ha] at e; rw [← e.2]; exact .refl _
   rw [if_neg hcs] at e
   split at e
   case h_2=>exact e.elim
   rename_i el _
   split at e
   case h_2=>exact e.elim
   rename_i z _
   split at e
   case isFalse=>exact e.elim
   split at e
   case isTrue=>rw [← e.2]; exact .refl _
   split at e
   case h_2=>exact e.elim
   rw [← e.2]; exact .app _ _
 | makeMap T r=>
   rw [ho] at e
   unfold DOp at e
   cases r with
   | none=>simp only [fG,aop] at e; rw [← e.2]; exact .app _ _
   | some _=>exact e.elim
 | makeSlice T l c=>
   rw [ho] at e
   unfold DOp at e
   simp only [fG,aop] at e
   unfold pR at e
   split at e
   case h_2=>exact e.elim
   split at e
   case h_2=>exact e.elim
   split at e
   case isFalse=>exact e.elim
   rw [← e.2]; exact .app _ _
 | call c=>
   rw [ho] at hk e
   simp only at hk
   unfold DOp at e
   simp only [fG,nR] at e
   cases hc:c.callee with
   | builtin b=>rw [hc] at hk; cases b <;> simp at hk
   | value f=>
     rw [hc] at e
     simp only at e
     cases hf:aev G env f with
     | fn f' first capt=>
       rw [hf] at e
       simp only [K5,if_true] at e
       obtain ⟨r,_,e1,e2⟩:=e
       rw [← e2]
       exact (aEx _ _ _).trans (aHr _ _)
     | _=>rw [hf] at e; exact e.elim
   | invoke _ _=>rw [hc] at hk; simp at hk
 | _=>rw [ho] at hk; simp at hk

theorem aOw {X:Ctx} {w:World} {h:List AObj} {a:AV} {v:Value} (r:RV X w h a v) {id:Nat} (e:a.refs=some id):∃ o,h[id]? = some o:=by
 cases r with
 | dead hr hid hv=>rw [hr] at e; cases e; exact ⟨_,hid⟩
 | _=>first | (simp [AV.refs] at e; done) | (simp only [AV.refs,aB] at e; subst e; exact ⟨_,by assumption⟩)

theorem aHv {o:Oper} (hk:tE o=some .r):rOp o.op=true:=by
 unfold tE at hk
 unfold rOp
 cases ho:o.op with
 | call c=>
   rw [ho] at hk
   simp only at hk ⊢
   cases hc:c.callee with
   | builtin b=>rw [hc] at hk; cases b <;> simp at hk ⊢
   | value f=>rw [hc] at hk; simp at hk
   | invoke _ _=>rw [hc] at hk; simp at hk
 | alloc T=>rw [ho] at hk; simp only at hk; split at hk <;> simp at hk
 | buildSlice T n ps=>rw [ho] at hk; simp only at hk; split at hk <;> simp at hk
 | _=>first | rfl | (rw [ho] at hk; simp at hk; done)

def pOp:Op→Bool
 | .move _ | .assign _ | .pick .. | .binOp .. | .unOp .. | .convert .. | .makeFunc .. | .field .. | .index .. | .extract .. | .build .. => true
 | _=>false
theorem bMo {o:Oper} (hk:tE o=some .c):pOp o.op=true∨(∃ T ps,o.op=.buildSlice T 0 ps∧ps.toList=[])∨∃ T n ps,o.op=.buildSlice T n ps∧aMh ps.toList=true:=by
 unfold tE at hk
 cases ho:o.op with
 | buildSlice T n ps=>
   right
   rw [ho] at hk
   simp only at hk
   split at hk
   · rename_i h
     simp only [aA,bJ,beq_iff_eq,List.isEmpty_iff] at h
     rcases h.1 with ⟨rfl,h2⟩ | h2
     · exact .inl ⟨T,ps,rfl,h2⟩
     · exact .inr ⟨T,n,ps,rfl,h2⟩
   · simp at hk
 | call c=>
   rw [ho] at hk
   simp only at hk
   cases hc:c.callee with
   | builtin b=>rw [hc] at hk; cases b <;> simp at hk
   | value f=>rw [hc] at hk; simp at hk
   | invoke _ _=>rw [hc] at hk; simp at hk
 | alloc T=>rw [ho] at hk; simp only at hk; split at hk <;> simp at hk
 | _=>first | exact .inl rfl | (rw [ho] at hk; simp at hk; done)
theorem pD {A:Option AV} {h hh:List AObj} {x:AV} (e:D8 (match A with | some v=>some (v,h) | Option.none=>Option.none) (fun x1 h1=>x1=x∧h1=hh)):hh=h∧∀ h',D8 (match A with | some v=>some (v,h') | Option.none=>Option.none) (fun x1 h1=>x1=x∧h1=h'):=by
 cases A with
 | none=>exact e.elim
 | some v=>exact ⟨e.2.symm,fun h'=>⟨e.1,rfl⟩⟩

theorem bGi {o:Oper} (hk:tE o=some .c) {env:List AV} {h hh:List AObj} {x:AV} (e:DOp P G o.op env h x hh):hh=h∧∀ h',DOp P G o.op env h' x h':=by
 rcases bMo hk with hp | ⟨T,ps,ho,hps⟩ | ⟨T,n,ps,ho,hcs⟩
 · unfold DOp at e ⊢
   cases ho:o.op with
   | move y=>rw [ho] at e; exact ⟨e.2.symm,fun h'=>⟨e.1,rfl⟩⟩
   | assign y=>rw [ho] at e; exact ⟨e.2.symm,fun h'=>⟨e.1,rfl⟩⟩
   | pick c a b=>
     rw [ho] at e
     simp only [fG,aop] at e ⊢
     cases hc:aev G env c <;> rw [hc] at e <;> first | exact ⟨e.2.symm,fun h'=>⟨e.1,rfl⟩⟩ | exact e.elim
   | binOp op T y z U=>rw [ho] at e; exact pD e
   | unOp op T y=>rw [ho] at e; exact pD e
   | convert S T y=>rw [ho] at e; exact pD e
   | makeFunc t a b=>
     rw [ho] at e
     cases t with
     | func f=>exact ⟨e.2.symm,fun h'=>⟨e.1,rfl⟩⟩
     | _=>exact e.elim
   | field T y f=>
     rw [ho] at e
     simp only [fG,aop] at e ⊢
     split at e
     · exact pD e
     · exact e.elim
   | index T y z=>rw [ho] at e; exact pD e
   | extract y i=>
     rw [ho] at e
     simp only [fG,aop] at e ⊢
     split at e
     · exact pD e
     · exact e.elim
   | build T ps=>
     rw [ho] at e
     simp only [fG,aop] at e ⊢
     cases h1:gQ P T with
     | none=>rw [h1] at e; exact e.elim
     | some pl=>
     cases h2:zeroOf P T with
     | none=>rw [h1,h2] at e; exact e.elim
     | some z=>
       rw [h1,h2] at e
       simp only at e ⊢
       split at e
       · exact ⟨e.2.symm,fun h'=>⟨e.1,rfl⟩⟩
       · exact e.elim
   | _=>rw [ho] at hp; exact absurd hp (by simp [pOp])
 · rw [ho] at e ⊢
   unfold DOp at e ⊢
   have hcf:¬ (true && aMh ps.toList)=true:=by rw [hps]; simp [aMh]
   simp only [fG,aop,if_neg hcf] at e ⊢
   cases h1:eF P T with
   | none=>rw [h1] at e; exact e.elim
   | some el=>
     rw [h1] at e
     simp only at e ⊢
     cases h2:zeroOf P el with
     | none=>rw [h2] at e; exact e.elim
     | some z=>
       rw [h2] at e
       simp only at e ⊢
       split at e
       case isFalse=>exact e.elim
       rename_i hc
       rw [if_pos ⟨trivial,hps⟩] at e
       refine ⟨e.2.symm,fun h'=>?_⟩
       rw [if_pos hc,if_pos ⟨trivial,hps⟩]
       exact ⟨e.1,rfl⟩
 · rw [ho] at e ⊢
   unfold DOp at e ⊢
   have hct:(true && aMh ps.toList)=true:=by rw [hcs]; rfl
   simp only [fG,if_pos hct] at e ⊢
   cases ha:bAv P T n ps with
   | none=>rw [ha] at e; exact e.elim
   | some v=>rw [ha] at e; exact ⟨e.2.symm,fun h'=>⟨e.1,rfl⟩⟩
theorem bCt {o:Oper}:tE o=some .a↔iN o=true:=by
 constructor
 · intro hk
   unfold tE at hk
   split at hk <;> first | (exfalso; revert hk; simp; done) | skip
   all_goals (revert hk; split <;> simp [*])
 · intro hf
   have hf':=hf
   unfold iN at hf'
   unfold tE
   split at hf'
   · rename_i T ho
     simp only [ho,hf,if_true]
   · cases hf'

theorem F2 {o:Oper} (h:iN o=true):∃ T,o.op=.alloc T∧o.guard=Option.none∧anyPre o=[]:=by
 unfold iN at h
 split at h
 · rename_i T ho
   simp only [aA,Option.isNone_iff_eq_none,List.isEmpty_iff] at h
   exact ⟨T,ho,h.1,h.2⟩
 · cases h
end

def mJ (ops:Array Oper) (i:Nat):Bool:=match ops[i]? with | some o=>iN o | Option.none=>false
def Fs (ops:Array Oper):List Nat:=(List.range ops.size).filter (mJ ops)
def Rs (ops:Array Oper):List Nat:=(List.range ops.size).filter fun i => !mJ ops i
def InR (ops:Array Oper) (p i:Nat):Prop:=∃ m,m < p∧(Rs ops)[m]? = some i
def Chg (rx:RX) (ops:Array Oper) (o:Oper):Prop:=dk rx ops o=some .w∨dk rx ops o=some .l

section
variable {P:Program} {G:fS} {rx:RX} {ops:Array Oper}
theorem bYr {o:Oper}:dk rx ops o=some .a↔iN o=true:=by
 constructor
 · intro h; exact bCt.1 (T2 h (by decide) (by decide)).2.2
 · intro h
   have hv:vOf rx ops o=false:=by
     cases hq:vOf rx ops o with
     | false=>rfl
     | true=>
       obtain ⟨T,len,ps,ho,_⟩:=aGf hq
       unfold iN at h; rw [ho] at h; cases h
   have hz:zOf rx o=false:=by
     cases hq:zOf rx o with
     | false=>rfl
     | true=>
       obtain ⟨f,as,ts,ho⟩:=X8 hq
       unfold iN at h; rw [ho] at h; cases h
   unfold dk
   rw [hv,hz]
   simpa using bCt.2 h
theorem bNk {o:Oper} {k:DK} (h:dk rx ops o=some k) (hk:k ≠ .c) (hl:k ≠ .l):omOf rx ops o=.n:=bMh (T2 h hk hl).1 (T2 h hk hl).2.1
theorem aSm {N:DR} {o:Oper} {k:DK} (h:dk rx ops o=some k) (hk:k ≠ .c) (hl:k ≠ .l) {env:List AV} {hh h':List AObj} {x:AV} (e:DOc P G N (omOf rx ops o) o.op env hh x h'):DOp P G o.op env hh x h':=by
 rw [bNk h hk hl] at e; exact e
theorem bNi {N:DR} {o:Oper} {k:DK} (h:dk rx ops o=some k) (hk:k ≠ .c) (hl:k ≠ .l) {env:List AV} {hh h':List AObj} {x:AV} (e:DOp P G o.op env hh x h'):DOc P G N (omOf rx ops o) o.op env hh x h':=by
 rw [bNk h hk hl]; exact e
theorem aIr {N:DR} {o:Oper} (h:dk rx ops o=some .w) {env:List AV} {hh h':List AObj} {x:AV} (e:DOc P G N (omOf rx ops o) o.op env hh x h'):A9 hh h':=bLc (T2 h (by decide) (by decide)).2.2 (aSm h (by decide) (by decide) e)
theorem aIq {N:DR} {o:Oper} (h:dk rx ops o=some .c) {env:List AV} {h0 hh:List AObj} {x:AV} (e:DOc P G N (omOf rx ops o) o.op env h0 x hh):hh=h0∧∀ h',DOc P G N (omOf rx ops o) o.op env h' x h':=by
 cases hv:vOf rx ops o with
 | true=>
   have hm:omOf rx ops o=.v:=by simp [omOf,hv]
   rw [hm] at e ⊢
   exact ⟨e.2,fun h'=>⟨e.1,rfl⟩⟩
 | false=>
   have hz:zOf rx o=false:=by
     cases hq:zOf rx o with
     | false=>rfl
     | true=>unfold dk at h; rw [hv,hq] at h; simp at h
   rw [bMh hv hz] at e ⊢
   have hd:tE o=some .c:=by unfold dk at h; rw [hv,hz] at h; simpa using h
   exact bGi hd e
theorem aIp {N:DR} {o:Oper} (hk:dk rx ops o=some .r∨dk rx ops o=some .c) {env:List AV} {h hh:List AObj} {x:AV} (e:DOc P G N (omOf rx ops o) o.op env h x hh):hh=h:=by
 rcases hk with hk | hk
 · exact (aAe (aHv (T2 hk (by decide) (by decide)).2.2) (aSm hk (by decide) (by decide) e)).1
 · exact (aIq hk e).1
theorem aDb {f:Operand} {as:Array Operand} {ts:Array TypeId} {K:AV→List AObj→Prop} {env env':List AV} {h:List AObj} (he:∀ o ∈ (Op.call ⟨.value f,as,ts⟩).operands.toList,aev G env o=aev G env' o) (e:fG P G false (.call ⟨.value f,as,ts⟩) K env h):fG P G false (.call ⟨.value f,as,ts⟩) K env' h:=by
 simp only [fG,nR] at e ⊢
 have hargs:as.toList.map (aev G env')=as.toList.map (aev G env):=(mO (fun o ho=>he o (by simp only [Op.operands,Call.operands]; simp; simp at ho; exact .inr ho))).symm
 rw [hargs,(he f (by simp [Op.operands,Call.operands])).symm]
 exact e
theorem aBy {N:DR} {m:OM} {op:Op} {env env':List AV} {h h':List AObj} {x:AV} (he:∀ o ∈ op.operands.toList,aev G env o=aev G env' o) (e:DOc P G N m op env h x h'):DOc P G N m op env' h x h':=by
 cases m with
 | n=>exact P3 he e
 | z=>
   obtain ⟨⟨f,as,ts,rfl⟩,h1,h2⟩:=e
   exact ⟨⟨f,as,ts,rfl⟩,aDb he h1,h2⟩
 | v =>
   obtain ⟨⟨T,len,ps,rfl,ha⟩,rfl⟩:=e
   refine ⟨⟨T,len,ps,rfl,?_⟩,rfl⟩
   have hm:(ps.toList.map fun (i,x)=>(i,aev G env' x))=ps.toList.map fun (i,x)=>(i,aev G env x):=by
     apply kW
     rintro ⟨i,y⟩ hp
     simp only [aP,true_and]
     exact (he y (by simp only [Op.operands]; simp; exact ⟨i,by simpa using hp⟩)).symm
   unfold aMw at ha ⊢
   rw [hm]
   exact ha
theorem bNj {N:DR} {o:Oper} {X:Ctx} {w:World} {h h1:List AObj} {env:List AV} {a:Act} {x:AV} {next:Act→World→Prop} {Q:Exit→Act→World→Prop} (g:GH G X w h) (r:EnvOK X w h env a) (e:DOc P G N (omOf rx ops o) o.op env h x h1)
   (hn:∀ a' w' X',GH G X' w' h1→EnvOK X' w' h1 (gN env o.dst x) a'→Tr X w h X' w' h1→next a' w'):o.wp P a w next Q:=by
 cases hm:omOf rx ops o with
 | n=>
   rw [hm] at e
   refine I2 (K:=fun x1 h2=>x1=x∧h2=h1) o g r e ?_
   rintro x' h' a' w' X' ⟨rfl,rfl⟩ g' r' t
   exact hn _ _ _ g' r' t
 | z=>
   rw [hm] at e
   refine I2 (K:=fun x1 h2=>x1=x∧h2=h1) o g r e.2.1 ?_
   rintro x' h' a' w' X' ⟨rfl,rfl⟩ g' r' t
   exact hn _ _ _ g' r' t
 | v=>
   rw [hm] at e
   obtain ⟨⟨T,len,ps,ho,ha⟩,rfl⟩:=e
   exact jZ r (aOq o ho g r ha) hn
end

theorem Y5 {α:Type} (ops:Array α):ops.toList=(List.range ops.size).filterMap (ops[·]?):=by
 apply L4
 intro i
 have key:∀ n,n≤ops.size→(List.range n).filterMap (ops[·]?)=ops.toList.take n:=by
   intro n
   induction n with
   | zero=>intro _; simp
   | succ n ih=>
     intro hn
     have hlt:n < ops.size:=by omega
     rw [List.range_succ,List.filterMap_append,ih (by omega)]
     simp [hlt,List.take_add_one]
 rw [key ops.size (aZ _)]
 simp [← Array.length_toList]

theorem aYj (ops:Array Oper):sC ops=(Fs ops++Rs ops).filterMap (ops[·]?):=by
 have h1:∀ (q:Oper→Bool) (q':Nat→Bool),(∀ i o,ops[i]? = some o→q' i=q o)→ops.toList.filter q=((List.range ops.size).filter q').filterMap (ops[·]?):=by
   intro q q' hq
   rw [Y5]
   generalize List.range ops.size=l
   induction l with
   | nil=>rfl
   | cons i l ih=>
     cases ho:ops[i]? with
     | none=>
       rw [kY,ho]
       simp only
       rw [ih,cV]
       split
       · rw [kY,ho]
       · rfl
     | some o=>
       rw [kY,ho]
       simp only
       rw [cV,cV,hq i o ho]
       split
       · rw [kY,ho,ih]
       · exact ih
 unfold sC Fs Rs
 rw [List.filterMap_append,h1 iN (mJ ops) (fun i o ho=>by simp [mJ,ho]),h1 (fun o => !iN o) (fun i => !mJ ops i) (fun i o ho=>by simp [mJ,ho])]

section
variable {ops:Array Oper}
theorem yP {i:Nat}:i ∈ Fs ops↔i < ops.size∧mJ ops i=true:=by simp [Fs]
theorem yO {i:Nat}:i ∈ Rs ops↔i < ops.size∧mJ ops i=false:=by simp [Rs]
theorem tY (n:Nat) (q:Nat→Bool) {m m' k k':Nat} (h1:((List.range n).filter q)[m]? = some k) (h2:((List.range n).filter q)[m']? = some k') (hl:m < m'):k < k':=by
 have hp:((List.range n).filter q).Pairwise (· < ·):=aNh _ (List.pairwise_lt_range (n:=n))
 rw [eR] at hp
 obtain ⟨a1,b1⟩:=eU.1 h1
 obtain ⟨a2,b2⟩:=eU.1 h2
 have:=hp m m' a1 a2 hl
 rw [b1,b2] at this
 exact this
theorem nM {m m' k k':Nat} (h1:(Rs ops)[m]? = some k) (h2:(Rs ops)[m']? = some k') (hl:m < m'):k < k':=tY _ _ h1 h2 hl
theorem aVa {m m' k:Nat} (h1:(Rs ops)[m]? = some k) (h2:(Rs ops)[m']? = some k):m=m':=by
 rcases Nat.lt_trichotomy m m' with h | h | h
 · have:=nM h1 h2 h; omega
 · exact h
 · have:=nM h2 h1 h; omega
theorem aXm:(Fs ops++Rs ops).Nodup:=by
 rw [kJ]
 refine ⟨aNh _ List.nodup_range,aNh _ List.nodup_range,?_⟩
 intro a ha b hb hab
 subst hab
 have:=(yP.1 ha).2
 rw [(yO.1 hb).2] at this; cases this
end

structure Told (P:Program) (G:fS) (N:DR) (rx:RX) (ops:Array Oper) (h0:List AObj) (env0:List AV) (x:Nat→AV) (hr:Nat→List AObj) (zz:Nat→List AV):Prop where
 free:∀ (q i:Nat),(Fs ops)[q]? = some i→∃ (o:Oper) (T:TypeId),ops[i]? = some o∧o.op=.alloc T∧zeroOf P T=some (zz i)∧x i=.ptr (h0.length+q) 0∧(hr 0)[h0.length+q]? = some (.box false (zz i))
 start:∃ obs,hr 0=h0++obs∧∀ ob ∈ obs,AObj.isH ob=false
 rest:∀ (q i:Nat) (o:Oper),(Rs ops)[q]? = some i→ops[i]? = some o→∃ e,EnvIs ops x env0 (fun k=>k ∈ Fs ops∨InR ops q k) e∧OpAt P G N rx ops o e (hr q) (x i) (hr (q+1))

section
variable {P:Program} {G:fS} {N:DR} {rx:RX} {ops:Array Oper} {B:Nat→Nat→Prop} {h0:List AObj} {env0:List AV}

theorem aXr {α:Type} (l:List α) (q:Nat) (k:α):k ∈ l.take q↔∃ m,m < q∧l[m]? = some k:=by
 rw [cS]
 constructor
 · rintro ⟨m,hm⟩
   rw [eL] at hm
   split at hm
   · exact ⟨m,‹_›,hm⟩
   · cases hm
 · rintro ⟨m,h1,h2⟩
   exact ⟨m,by rw [eL,if_pos h1]; exact h2⟩

theorem bFd (D:DOK rx ops B) {K:List AV→List AObj→Prop} {al:List fZ} (hs:eJ rx ops (sC ops)=some al) (e:dG P G (some N) al K env0 h0) :
   ∃ x hr zz,Told P G N rx ops h0 env0 x hr zz∧∀ e,EnvIs ops x env0 (fun i=>i < ops.size) e→K e (hr (Rs ops).length):=by
 rw [aYj] at hs
 obtain ⟨x,hh,e0,hK,htr⟩:=bLi (Fs ops++Rs ops) al env0 h0 (fun i hi=>by
   rcases bA.1 hi with h | h
   · exact (yP.1 h).1
   · exact (yO.1 h).1) aXm hs e
 have hfr:∀ q i,(Fs ops)[q]? = some i→∃ (o:Oper) (T:TypeId) (z:List AV),ops[i]? = some o∧o.op=.alloc T∧zeroOf P T=some z∧x i=.ptr (hh q).length 0∧hh (q+1)=hh q++[.box false z]:=by
   intro q i hq
   have hm:=yP.1 (cP hq)
   have ho:ops[i]? = some ops[i]:=by simp [hm.1]
   have hf:iN ops[i]=true:=by have:=hm.2; simp only [mJ,ho] at this; exact this
   obtain ⟨T,hop,hg,_⟩:=F2 hf
   have hat:=htr q i ops[i] (by rw [aD (aQ hq)]; exact hq) ho
   unfold OpAt at hat
   rw [hg] at hat
   have hvf:vOf rx ops ops[i]=false:=by unfold vOf aLv; rw [hop]; simp
   have hzf:zOf rx ops[i]=false:=by unfold zOf; rw [hop]
   have hd2:=hat.2
   rw [bMh hvf hzf] at hd2
   obtain ⟨z,hz,hx,hh'⟩:=aBx (hop ▸ hd2)
   exact ⟨ops[i],T,z,ho,hop,hz,hx,hh'⟩
 have hzz:∃ zz:Nat→List AV,∀ q i,(Fs ops)[q]? = some i→∃ (o:Oper) (T:TypeId),ops[i]? = some o∧o.op=.alloc T∧zeroOf P T=some (zz i)∧x i=.ptr (hh q).length 0∧hh (q+1)=hh q++[.box false (zz i)]:=by
   refine ⟨fun i=>match ops[i]? with | some o=>(match o.op with | .alloc T=>(zeroOf P T).getD [] | _=>[]) | Option.none=>[],?_⟩
   intro q i hq
   obtain ⟨o,T,z,ho,hop,hz,hx,hh'⟩:=hfr q i hq
   exact ⟨o,T,ho,hop,by simp [ho,hop,hz],hx,by simp [ho,hop,hz,hh']⟩
 obtain ⟨zz,hzz⟩:=hzz
 have hlen:∀ q,q≤(Fs ops).length→(hh q).length=h0.length+q∧(∃ obs,hh q=h0++obs∧∀ ob ∈ obs,AObj.isH ob=false)∧∀ m i,m < q→(Fs ops)[m]? = some i→(hh q)[h0.length+m]? = some (.box false (zz i)):=by
   intro q
   induction q with
   | zero=>intro _; exact ⟨by rw [e0]; rfl,⟨[],by rw [e0]; simp,by simp⟩,fun m i h=>by omega⟩
   | succ q ih=>
     intro hq
     obtain ⟨i1,⟨obs,i2,i2b⟩,i3⟩:=ih (by omega)
     have hqi:(Fs ops)[q]? = some (Fs ops)[q]:=by simp [show q < (Fs ops).length by omega]
     obtain ⟨o,T,ho,hop,hz,hx,hh'⟩:=hzz q _ hqi
     refine ⟨by rw [hh']; simp [i1]; omega,⟨obs++[.box false (zz (Fs ops)[q])],by rw [hh',i2]; simp,fun ob hob=>by exact (bA.1 hob).elim (i2b ob) (fun m=>by rw [aS] at m; subst m; rfl)⟩,?_⟩
     intro m i hm hmi
     rw [hh']
     by_cases hmq:m=q
     · subst hmq
       rw [hqi] at hmi; cases hmi
       rw [aK (by omega)]
       simp [i1]
     · rw [aD (by omega)]
       exact i3 m i (by omega) hmi
 obtain ⟨l1,l2,l3⟩:=hlen (Fs ops).length (aZ _)
 refine ⟨x,fun q=>hh ((Fs ops).length+q),zz,⟨?_,l2,?_⟩,?_⟩
 · intro q i hq
   obtain ⟨o,T,ho,hop,hz,hx,hh'⟩:=hzz q i hq
   refine ⟨o,T,ho,hop,hz,?_,l3 q i (aQ hq) hq⟩
   rw [hx,(hlen q (Nat.le_of_lt (aQ hq))).1]
 · intro q i o hq ho
   refine ⟨_,?_,htr ((Fs ops).length+q) i o (by rw [aK (by omega)]; simpa using hq) ho⟩
   refine (aIm D _).congr (fun k=>?_)
   rw [List.take_append,aH (by omega),Nat.add_sub_cancel_left,bA,aXr (Rs ops)]
   rfl
 · intro e he
   have:e=xU ops x (Fs ops++Rs ops) env0:=he.unique D ((aIm D _).congr (fun k=>by
     rw [bA,yP,yO]
     cases mJ ops k <;> simp))
   rw [this]
   have:=hK
   rw [aE] at this
   exact this

structure Inv (P:Program) (G:fS) (rx:RX) (ops:Array Oper) (h0:List AObj) (env0:List AV) (x:Nat→AV) (hr:Nat→List AObj) (zz:Nat→List AV) (X0:Ctx) (w0:World) (S:Nat→Prop) (X:Ctx) (w:World) (a:Act) (p:Nat) (e:List AV):Prop where
 hp:p≤(Rs ops).length
 g:GH G X w (hr p)
 ei:EnvIs ops x env0 S e
 eo:EnvOK X w (hr p) e a
 tr:Tr X0 w0 h0 X w (hr p)
 ch:∀ (i:Nat) (o:Oper),ops[i]? = some o→Chg rx ops o→(S i↔InR ops p i)
 pend:∀ (q i:Nat),(Fs ops)[q]? = some i→¬ S i→(hr p)[h0.length+q]? = some (.box false (zz i))∧X.ι (h0.length+q)=Option.none
 cl:Closed ops S
 lt:∀ i,S i→i < ops.size

variable {x:Nat→AV} {hr:Nat→List AObj} {zz:Nat→List AV} {X0:Ctx} {w0:World} {S:Nat→Prop} {X:Ctx} {w:World} {a:Act} {p:Nat} {e:List AV}

theorem G7 {i:Nat} {o:Oper} (cl:Closed ops S) (hi:ops[i]? = some o) (hpre:∀ e,e ∈ anyPre o→S e):Closed ops (fun k=>S k∨k=i):=by
 rintro k ok (s | rfl) hk e he
 · exact .inl (cl k ok s hk e he)
 · rw [hi] at hk; cases hk; exact .inl (hpre e he)

theorem R6 (D:DOK rx ops B) (T:Told P G N rx ops h0 env0 x hr zz) {m k:Nat} {ok:Oper} (hm:(Rs ops)[m]? = some k) (hk:ops[k]? = some ok) (hc:¬ Chg rx ops ok):(dk rx ops ok=some .r∨dk rx ops ok=some .c)∧hr (m+1)=hr m:=by
 have hnf:iN ok=false:=by
   have:=(yO.1 (cP hm)).2
   simp only [mJ,hk] at this; exact this
 have hkind:dk rx ops ok=some .r∨dk rx ops ok=some .c:=by
   have:=D.kind k ok hk
   cases hd:dk rx ops ok with
   | none=>rw [hd] at this; cases this
   | some d=>
     cases d with
     | c=>exact .inr rfl
     | a=>rw [bYr.1 hd] at hnf; cases hnf
     | r=>exact .inl rfl
     | w=>exact absurd (.inl hd) hc
     | l=>exact absurd (.inr hd) hc
 refine ⟨hkind,?_⟩
 obtain ⟨eT,_,hat⟩:=T.rest m k ok hm hk
 unfold OpAt at hat
 cases hg:ok.guard with
 | none=>rw [hg] at hat; exact aIp hkind hat.2
 | some q=>
   obtain ⟨j,want⟩:=q
   rw [hg] at hat
   obtain ⟨d,b,_,_,h1,h2⟩:=hat
   cases b with
   | true=>exact aIp hkind (h1 rfl).2
   | false=>exact (h2 rfl).2

theorem B4 (D:DOK rx ops B) (T:Told P G N rx ops h0 env0 x hr zz) {m k:Nat} {ok:Oper} (hm:(Rs ops)[m]? = some k) (hk:ops[k]? = some ok) (hc:dk rx ops ok ≠ some .l):A9 (hr m) (hr (m+1)):=by
 by_cases hc2:Chg rx ops ok
 · have hw:dk rx ops ok=some .w:=hc2.resolve_right hc
   obtain ⟨eT,_,hat⟩:=T.rest m k ok hm hk
   unfold OpAt at hat
   cases hg:ok.guard with
   | none=>rw [hg] at hat; exact aIr hw hat.2
   | some q=>
     obtain ⟨j,want⟩:=q
     rw [hg] at hat
     obtain ⟨d,b,_,_,h1,h2⟩:=hat
     cases b with
     | true=>exact aIr hw (h1 rfl).2
     | false=>rw [(h2 rfl).2]; exact .refl _
 · rw [(R6 D T hm hk hc2).2]; exact .refl _

theorem T1 {a:Nat}:∀ (b:Nat),a≤b→(∀ m,a≤m→m < b→hr (m+1)=hr m)→hr b=hr a
 | 0, h, _ => by have:a=0:=by omega
                 rw [this]
 | b + 1,h,hs=>by
   by_cases hab:a=b+1
   · rw [hab]
   · rw [hs b (by omega) (by omega)]
     exact T1 b (by omega) (fun m h1 h2=>hs m h1 (by omega))
theorem xQ {a:Nat}:∀ (b:Nat),a≤b→(∀ m,a≤m→m < b→A9 (hr m) (hr (m+1)))→A9 (hr a) (hr b)
 | 0, h, _ => by have:a=0:=by omega
                 rw [this]; exact .refl _
 | b+1,h,hs=>by
   by_cases hab:a=b+1
   · rw [hab]; exact .refl _
   · exact (xQ b (by omega) (fun m h1 h2=>hs m h1 (by omega))).trans (hs b (by omega) (by omega))

theorem lS.refl (N:DR) (h:List AObj):lS N h h:=fun id o _ ho=>⟨o,ho,rfl⟩
theorem lS.trans {N:DR} {a b c:List AObj} (x:lS N a b) (y:lS N b c):lS N a c:=fun id o hn ho=>by
 obtain ⟨o1,h1,e1⟩:=x id o hn ho
 obtain ⟨o2,h2,e2⟩:=y id o1 hn h1
 exact ⟨o2,h2,e2.trans e1⟩
theorem A9.toN {N:DR} {h h':List AObj} (g:A9 h h'):lS N h h':=fun id o _ ho=>g id o ho
theorem uF {N:DR} {a:Nat}:∀ (b:Nat),a≤b→(∀ m,a≤m→m < b→lS N (hr m) (hr (m+1)))→lS N (hr a) (hr b)
 | 0, h, _ => by have:a=0:=by omega
                 rw [this]; exact .refl _ _
 | b+1,h,hs=>by
   by_cases hab:a=b+1
   · rw [hab]; exact .refl _ _
   · exact (uF b (by omega) (fun m h1 h2=>hs m h1 (by omega))).trans (hs b (by omega) (by omega))
theorem lS.app {N:DR} (h obs:List AObj):lS N h (h++obs):=(A9.app h obs).toN
theorem lS.set {N:DR} {id:Nat} {h:List AObj} {ob:AObj} (hn:N.mut id):lS N h (h.set id ob):=fun i o hi ho=>⟨o,by rw [dA (yB (DR.apart hi hn))]; exact ho,rfl⟩

theorem yX {N:DR} {h h':List AObj} {T:TypeId} {s x y:AV} (hs:yN N s) (e:gA P h T s x=some (y,h')):lS N h h':=by
 unfold gA at e
 split at e
 case h_2=>cases e
 split at e
 case h_2=>cases e
 split at e
 case isFalse=>cases e
 split at e
 case h_2=>cases e
 split at e
 · split at e
   · cases e; exact .app _ _
   · cases e
 · rename_i id off n t
   have hn:N.mut id:=hs
   split at e
   case h_2=>cases e
   split at e
   case isFalse=>cases e
   split at e
   · split at e
     · cases e; exact .app _ _
     · cases e
   split at e
   · cases e
   split at e
   · cases e; exact (lS.set hn).trans (.app _ _)
   split at e
   · cases e; exact .set hn
   · cases e; exact (lS.set hn).trans (.app _ _)
 · cases e

theorem aHt {p q:Oper} (h:K0 rx ops p q=true):K0 rx ops q p=true:=by
 unfold K0 at h ⊢
 simp only [aA,bJ] at h ⊢
 exact ⟨h.1,h.2.symm⟩

theorem N4 {N:DR}:∀ {l:List AV},rW N l→∀ a ∈ l,lJ N a
 | [],_,a,h=>by cases h
 | x::l,h,a,ha=>by
   rcases bT.1 ha with rfl | ha
   · exact h.1
   · exact N4 h.2 a ha

theorem bRt {N:DR} {o:Oper} (hk:tE o=some .r) {env:List AV} (hck:aMj G (some N) true o.op env):∀ y ∈ o.op.operands.toList,∀ {id:Nat},(aev G env y).refs=some id→N.old id:=by
 intro y hy id hid
 have hall:rW N (o.op.operands.toList.map (aev G env)):=by
   simp only [aMj] at hck
   unfold U3 at hck
   unfold tE at hk
   cases ho:o.op with
   | call c=>
     rw [ho] at hck hk
     simp only at hck hk
     cases hc:c.callee with
     | builtin b=>rw [hc] at hck hk; cases b <;> first | exact hck | simp at hk
     | value f=>rw [hc] at hk; simp at hk
     | invoke _ _=>rw [hc] at hk; simp at hk
   | store T a x=>rw [ho] at hk; simp at hk
   | buildSlice T n ps=>rw [ho] at hk; simp only at hk; split at hk <;> simp at hk
   | _=>rw [ho] at hck; exact hck
 have:=N4 hall _ (dQ.2 ⟨y,hy,rfl⟩)
 unfold lJ at this
 rw [hid] at this
 exact this

theorem bHo {ok:Oper} {eT:List AV} {h0 h1:List AObj} {xk:AV} (hmm:aEv ok=true) (hc:aMj G (some N) true ok.op eT) (hd:DOp P G ok.op eT h0 xk h1):lS N h0 h1:=by
 have h2:=hmm
 unfold aEv at h2
 rcases bJ _ _ ▸ h2 with h2 | h2
 case inr=>
   unfold oJ at h2
   split at h2
   case h_2=>cases h2
   rename_i T y z ho
   rw [ho] at hc hd
   simp only [aMj,U3] at hc
   unfold DOp at hd
   simp only [fG,aop] at hd
   cases hst:tV P (h0) T (aev G eT y) (aev G eT z) with
   | none=>rw [hst] at hd; exact hd.elim
   | some h'=>
     rw [hst] at hd
     obtain ⟨_,rfl⟩:=hd
     unfold tV at hst
     split at hst
     case h_2=>cases hst
     rename_i id off cs n hy _ _
     rw [hy] at hc
     have hn:N.mut id:=hc
     split at hst
     · split at hst
       · rw [← gB hst]; exact .set hn
       · cases hst
     · split at hst
       · rw [← gB hst]; exact .set hn
       · cases hst
     · cases hst
 unfold K6 at h2
 split at h2
 case h_2=>cases h2
 rename_i args tys ho
 rw [ho] at hc hd
 simp only [aMj,U3] at hc
 unfold DOp at hd
 simp only [fG,nR] at hd
 split at hc
 case h_2=>exact hc.elim
 rename_i s z hargs
 rw [hargs] at hd
 split at hd
 case h_2=>exact hd.elim
 rename_i A B s' z' _ hz
 simp only [gM,and_true] at hz
 obtain ⟨rfl,rfl⟩:=hz
 split at hd
 case isFalse=>
   split at hd
   case h_2=>exact hd.elim
   cases ha:pO P (h0) A s z with
   | none=>rw [ha] at hd; exact hd.elim
   | some q=>
     rw [ha] at hd
     obtain ⟨y,h'⟩:=q
     obtain ⟨_,rfl⟩:=hd
     unfold pO at ha
     split at ha
     case h_2=>cases ha
     split at ha
     case h_2=>cases ha
     split at ha
     case isFalse=>cases ha
     split at ha
     · simp only [aB,aP] at ha; rw [← ha.2]; exact .refl _ _
     · simp only [aB,aP] at ha; rw [← ha.2]; exact .app _ _
 split at hd
 · cases ha:gA P (h0) A s z with
   | none=>rw [ha] at hd; exact hd.elim
   | some q=>
     rw [ha] at hd
     obtain ⟨y,h'⟩:=q
     obtain ⟨_,rfl⟩:=hd
     exact yX hc ha
 · cases ha:gA P (freeze (dR dep (h0) z) (h0)) A s (gH dep (h0) z) with
   | none=>rw [ha] at hd; exact hd.elim
   | some q=>
     rw [ha] at hd
     obtain ⟨y,h'⟩:=q
     obtain ⟨_,rfl⟩:=hd
     exact (A9.freeze _ _).toN.trans (yX hc ha)
theorem aQt {o ok:Oper} (hl:K0 rx ops o ok=true) (hr0:dk rx ops o=some .r):rx.on=true∧ckX rx ops o=true∧aQn rx ops ok=true:=by
 have hr':=(T2 hr0 (by decide) (by decide)).2.2
 unfold K0 at hl
 simp only [aA,bJ] at hl
 rcases hl.2 with h | h
 · exact ⟨hl.1,h.1.2,h.2⟩
 · exfalso
   have h2:=h.2
   unfold aQn at h2
   simp only [bJ,aA] at h2
   rcases h2 with h2 | h2
   · have h2:=h2.1
     unfold aEv K6 oJ at h2
     unfold tE at hr'
     cases ho:o.op with
     | call c=>
       rw [ho] at hr' h2
       obtain ⟨ce,as,ts⟩:=c
       cases ce with
       | builtin b=>cases b <;> simp at hr' h2
       | _=>simp at h2
     | store T a x=>rw [ho] at hr'; simp at hr'
     | _=>rw [ho] at h2; simp at h2
   · rw [(T2 hr0 (by decide) (by decide)).2.1] at h2; cases h2
theorem aYb (T:Told P G N rx ops h0 env0 x hr zz) {m k:Nat} {ok o:Oper} (hm:(Rs ops)[m]? = some k) (hk:ops[k]? = some ok) (hl:K0 rx ops o ok=true) (hr0:dk rx ops o=some .r):lS N (hr m) (hr (m+1)):=by
 obtain ⟨eT,_,hat⟩:=T.rest m k ok hm hk
 obtain ⟨hon,hcx,hmut⟩:=aQt hl hr0
 have go0:OpD P G N rx ops ok eT (hr m) (x k) (hr (m+1))→lS N (hr m) (hr (m+1)):=by
   intro hOD
   unfold aQn at hmut
   simp only [bJ,aA] at hmut
   rcases hmut with hmm | hz
   case inr=>
     have hvz:vOf rx ops ok=false:=by
       cases hq:vOf rx ops ok with
       | false=>rfl
       | true=>
         obtain ⟨T,len,ps,ho,_⟩:=aGf hq
         obtain ⟨f,as,ts,ho2⟩:=X8 hz
         rw [ho] at ho2; cases ho2
     have hom:omOf rx ops ok=.z:=by simp [omOf,hvz,hz]
     have:=hOD.2
     rw [hom] at this
     exact this.2.2
   have hvm:vOf rx ops ok=false:=by
     cases hq:vOf rx ops ok with
     | false=>rfl
     | true=>
       obtain ⟨T,len,ps,ho,_⟩:=aGf hq
       have h2:=hmm.1
       unfold aEv K6 oJ at h2; rw [ho] at h2; simp at h2
   have hzm:zOf rx ok=false:=by
     cases hq:zOf rx ok with
     | false=>rfl
     | true=>
       obtain ⟨f,as,ts,ho⟩:=X8 hq
       have h2:=hmm.1
       unfold aEv K6 oJ at h2; rw [ho] at h2; simp at h2
   have happ:aEv ok=true∧ckF rx ops ok=true:=⟨hmm.1,by simp [ckF,hon,hmm.2]⟩
   revert hOD
   rintro ⟨hc,hd⟩
   rw [happ.2] at hc
   rw [bMh hvm hzm] at hd
   exact bHo happ.1 hc hd
 unfold OpAt at hat
 cases hg:ok.guard with
 | none=>rw [hg] at hat; exact go0 hat
 | some gq=>
   obtain ⟨j,want⟩:=gq
   rw [hg] at hat
   obtain ⟨d,b,_,_,h1,h2⟩:=hat
   cases b with
   | true=>exact go0 (h1 rfl)
   | false=>rw [(h2 rfl).2]; exact .refl _ _

structure cDd (P:Program) (G:fS) (N:DR) (rx:RX) (ops:Array Oper) (hr:Nat→List AObj) (S:Nat→Prop) (i p:Nat) (o:Oper) (e eT:List AV) (q:Nat) (x:AV):Prop where
 agree:∀ t,t ∈ ouses ops o→e.getD t .u=eT.getD t .u
 at_:OpAt P G N rx ops o eT (hr q) x (hr (q+1))
 run:OpD P G N rx ops o eT (hr q) x (hr (q+1))→∃ p',p'≤(Rs ops).length∧DOc P G N (omOf rx ops o) o.op e (hr p) x (hr p')∧∀ (k:Nat) (ok:Oper),ops[k]? = some ok→Chg rx ops ok→((S k∨k=i)↔InR ops p' k)
 drop:hr (q+1)=hr q→∃ p',p'≤(Rs ops).length∧hr p'=hr p∧∀ (k:Nat) (ok:Oper),ops[k]? = some ok→Chg rx ops ok→((S k∨k=i)↔InR ops p' k)

theorem cBh (D:DOK rx ops B) (T:Told P G N rx ops h0 env0 x hr zz) (I:Inv P G rx ops h0 env0 x hr zz X0 w0 S X w a p e) {i:Nat} {o:Oper} (hi:ops[i]? = some o) (hS:¬ S i) (hpre:∀ e,e ∈ anyPre o→S e) (hf:iN o=false) :
   ∃ eT q,cDd P G N rx ops hr S i p o e eT q (x i):=by
 have hlt:i < ops.size:=(aW.1 hi).1
 have hiR:i ∈ Rs ops:=yO.2 ⟨hlt,by simp only [mJ,hi]; exact hf⟩
 obtain ⟨q,hq⟩:=cS.1 hiR
 obtain ⟨eT,hT,hat⟩:=T.rest q i o hq hi
 have notF:i ∉ Fs ops:=fun h=>by have:=(yP.1 h).2; simp only [mJ,hi] at this; rw [hf] at this; cases this
 have bef1:∀ k,B k i→S k:=D.before I.cl i o hi hpre
 have bef2:∀ k ok,ops[k]? = some ok→S k→¬ B i k:=fun k ok hk s hb=>hS (D.before I.cl k ok hk (I.cl k ok s hk) i hb)
 have agree:∀ t,t ∈ ouses ops o→e.getD t .u=eT.getD t .u:=by
   intro t ht
   refine I.ei.agree D hT t (fun k hk=>?_)
   obtain ⟨ok,hok,hdk⟩:∃ ok,ops[k]? = some ok∧ok.dst=some t:=by
     unfold mS at hk
     cases hok:ops[k]? with
     | none=>rw [hok] at hk; cases hk
     | some ok=>rw [hok] at hk; exact ⟨ok,rfl,hk⟩
   have hkl:k < ops.size:=(aW.1 hok).1
   constructor
   · intro s
     cases hfk:mJ ops k with
     | true=>exact .inl (yP.2 ⟨hkl,hfk⟩)
     | false=>
       right
       obtain ⟨m,hm⟩:=cS.1 (yO.2 ⟨hkl,hfk⟩)
       by_cases hmq:m < q
       · exact ⟨m,hmq,hm⟩
       · exfalso
         have hne:m ≠ q:=fun h=>by subst h; rw [hq] at hm; cases hm; exact hS s
         have hik:=nM hq hm (by omega)
         rcases D.ind k i ok o hok hi (by omega) with h | h | h
         · have:=D.blt i o hi k h; omega
         · exact bef2 k ok hok s h
         · exact (pH h).1 t hdk ht
   · intro hkk
     by_cases s:S k
     · exact s
     · exfalso
       have hne:k ≠ i:=by
         rintro rfl
         rcases hkk with h | ⟨m,hm,hmk⟩
         · exact notF h
         · have:=aVa hmk hq; omega
       rcases D.ind k i ok o hok hi hne with h | h | h
       · exact s (bef1 k h)
       · rcases hkk with hF | ⟨m,hm,hmk⟩
         · have hfr:iN ok=true:=by have:=(yP.1 hF).2; simp only [mJ,hok] at this; exact this
           obtain ⟨_,_,_,hp0⟩:=F2 hfr
           rcases D.clo k ok hok i h with h | ⟨e,he,_⟩
           · rw [hp0] at h; cases h
           · rw [hp0] at he; cases he
         · have:=D.blt k ok hok i h
           have:=nM hmk hq hm
           omega
       · exact (pH h).1 t hdk ht
 have opd:∀ y ∈ o.op.operands.toList,aev G eT y=aev G e y:=by
   intro y hy
   cases y with
   | tmp t=>
     simp only [aev]
     exact (agree t (by
       unfold ouses
       refine dC _ (cQ _ ?_)
       unfold bMc
       exact List.mem_filterMap.2 ⟨.tmp t,hy,rfl⟩)).symm
   | _=>rfl
 have pend:∀ m k ok,(Rs ops)[m]? = some k→ops[k]? = some ok→p≤m→m < q→Chg rx ops ok→¬ S k:=by
   intro m k ok hm hk h1 h2 hc s
   obtain ⟨m',hm',hmk⟩:=(I.ch k ok hk hc).1 s
   have:=aVa hmk hm; omega
 have at_m:∀ m,m < (Rs ops).length→∃ k ok,(Rs ops)[m]? = some k∧ops[k]? = some ok:=by
   intro m hm
   have h1:(Rs ops)[m]? = some (Rs ops)[m]:=by simp [hm]
   have h2:=(yO.1 (cP h1)).1
   exact ⟨_,ops[(Rs ops)[m]],h1,by simp [h2]⟩
 have hql:q < (Rs ops).length:=aQ hq
 by_cases hc:Chg rx ops o
 · have hpq:p≤q:=by
     rcases A6 q p with h | h
     · exact absurd ((I.ch i o hi hc).2 ⟨q,h,hq⟩) hS
     · exact h
   have none:∀ m k ok,(Rs ops)[m]? = some k→ops[k]? = some ok→p≤m→m < q→¬ Chg rx ops ok:=by
     intro m k ok hm hk h1 h2 hck
     have s:=pend m k ok hm hk h1 h2 hck
     have hki:=nM hm hq h2
     rcases D.ind k i ok o hk hi (by omega) with h | h | h
     · exact s (bef1 k h)
     · have:=D.blt k ok hk i h; omega
     · obtain ⟨_,_,a,b,ha,hb,hab⟩:=pH h
       rcases hab with hab | hab
       · rcases hck with c1 | c1 <;> rcases hc with c2 | c2 <;> (rw [c1] at ha; rw [c2] at hb; cases ha; cases hb; simp [E7] at hab)
       · unfold K0 at hab
         rcases hck with c1 | c1 <;> rcases hc with c2 | c2 <;> simp [c1,c2] at hab
   have heq:hr q=hr p:=T1 q hpq (fun m h1 h2=>by
     obtain ⟨k,ok,hk,hok⟩:=at_m m (by omega)
     exact (R6 D T hk hok (none m k ok hk hok h1 h2)).2)
   have chq:∀ (k:Nat) (ok:Oper),ops[k]? = some ok→Chg rx ops ok→((S k∨k=i)↔InR ops (q+1) k):=by
     intro k ok hok hck
     constructor
     · rintro (s | rfl)
       · obtain ⟨m,hm,hmk⟩:=(I.ch k ok hok hck).1 s
         exact ⟨m,by omega,hmk⟩
       · exact ⟨q,by omega,hq⟩
     · rintro ⟨m,hm,hmk⟩
       by_cases h1:m < p
       · exact .inl ((I.ch k ok hok hck).2 ⟨m,h1,hmk⟩)
       · by_cases h2:m=q
         · subst h2; rw [hq] at hmk; cases hmk; exact .inr rfl
         · exact absurd hck (none m k ok hmk hok (by omega) (by omega))
   refine ⟨eT,q,agree,hat,fun d=>⟨q+1,hql,?_,chq⟩,fun hd=>⟨q+1,hql,by rw [hd,heq],chq⟩⟩
   rw [← heq]; exact aBy opd d.2
 · obtain ⟨hkind,hsame⟩:=R6 D T hq hi hc
   have chp:∀ (k:Nat) (ok:Oper),ops[k]? = some ok→Chg rx ops ok→((S k∨k=i)↔InR ops p k):=by
     intro k ok hok hck
     constructor
     · rintro (s | rfl)
       · exact (I.ch k ok hok hck).1 s
       · rw [hi] at hok; cases hok; exact absurd hck hc
     · intro h; exact .inl ((I.ch k ok hok hck).2 h)
   refine ⟨eT,q,agree,hat,fun d=>⟨p,I.hp,?_,chp⟩,fun _=>⟨p,I.hp,rfl,chp⟩⟩
   rcases hkind with hk | hk
   · refine bNi hk (by decide) (by decide) (P3 opd ((aAe (aHv (T2 hk (by decide) (by decide)).2.2) (aSm hk (by decide) (by decide) d.2)).2 (hr p) ?_))
     intro y hy
     intro id hid
     have notL:∀ m k ok,(Rs ops)[m]? = some k→ops[k]? = some ok→((p≤m∧m < q)∨(q≤m∧m < p))→dk rx ops ok ≠ some .l∨K0 rx ops o ok=true:=by
       intro m k ok hm hok hpm
       by_cases hl:dk rx ops ok=some .l
       case neg=>exact .inl hl
       right
       have hck:Chg rx ops ok:=.inr hl
       rcases hpm with ⟨h1,h2⟩ | ⟨h1,h2⟩
       · have s:=pend m k ok hm hok h1 h2 hck
         have hki:=nM hm hq h2
         rcases D.ind k i ok o hok hi (by omega) with h | h | h
         · exact absurd (bef1 k h) s
         · have:=D.blt k ok hok i h; omega
         · obtain ⟨_,_,a,b,ha,hb,hab⟩:=pH h
           rcases hab with hab | hab
           · rw [hl] at ha; rw [hk] at hb; cases ha; cases hb; simp [E7] at hab
           · exact aHt hab
       · have s:S k:=(I.ch k ok hok hck).2 ⟨m,h2,hm⟩
         have hne:m ≠ q:=fun h=>by subst h; rw [hq] at hm; cases hm; exact hS s
         have hik:=nM hq hm (by omega)
         rcases D.ind k i ok o hok hi (by omega) with h | h | h
         · have:=D.blt i o hi k h; omega
         · exact absurd h (bef2 k ok hok s)
         · obtain ⟨_,_,a,b,ha,hb,hab⟩:=pH h
           rcases hab with hab | hab
           · rw [hl] at ha; rw [hk] at hb; cases ha; cases hb; simp [E7] at hab
           · exact aHt hab
     have hpl:=I.hp
     by_cases hflag:ckF rx ops o=true
     · -- what it reads was there before
       have hold:N.old id:=by
         have hck:=d.1
         rw [hflag] at hck
         exact bRt (T2 hk (by decide) (by decide)).2.2 hck y hy hid
       have step:∀ m,m < (Rs ops).length→((p≤m∧m < q)∨(q≤m∧m < p))→lS N (hr m) (hr (m+1)):=by
         intro m hml hpm
         obtain ⟨k,ok,hk',hok⟩:=at_m m hml
         rcases notL m k ok hk' hok hpm with h | h
         · exact (B4 D T hk' hok h).toN
         · exact aYb T hk' hok h (by rw [hk])
       rcases Nat.le_total p q with h | h
       · have gr:lS N (hr p) (hr q):=uF q h (fun m h1 h2=>step m (by omega) (.inl ⟨h1,h2⟩))
         have rv:=iC I.g I.eo y
         rw [← opd y hy] at rv
         obtain ⟨ob,hob⟩:=aOw rv hid
         obtain ⟨ob',h1,h2⟩:=gr id ob hold hob
         right; rw [hob,h1]; simp [h2]
       · have gr:lS N (hr q) (hr p):=uF p h (fun m h1 h2=>step m (by omega) (.inr ⟨h1,h2⟩))
         cases hx:(hr q)[id]? with
         | none=>left; rfl
         | some ob=>obtain ⟨ob',h1,h2⟩:=gr id ob hold hx; right; rw [h1]; simp [h2]
     · have notL2:∀ m k ok,(Rs ops)[m]? = some k→ops[k]? = some ok→((p≤m∧m < q)∨(q≤m∧m < p))→dk rx ops ok ≠ some .l:=by
         intro m k ok hm hok hpm
         rcases notL m k ok hm hok hpm with h | h
         · exact h
         · obtain ⟨q1,q2,_⟩:=aQt h hk
           exact absurd (by simp [ckF,q1,q2]) hflag
       rcases Nat.le_total p q with h | h
       · have gr:A9 (hr p) (hr q):=xQ q h (fun m h1 h2=>by
           obtain ⟨k,ok,hk,hok⟩:=at_m m (by omega)
           exact B4 D T hk hok (notL2 m k ok hk hok (.inl ⟨h1,h2⟩)))
         have rv:=iC I.g I.eo y
         rw [← opd y hy] at rv
         obtain ⟨ob,hob⟩:=aOw rv hid
         obtain ⟨ob',h1,h2⟩:=gr id ob hob
         right; rw [hob,h1]; simp [h2]
       · have gr:A9 (hr q) (hr p):=xQ p h (fun m h1 h2=>by
           obtain ⟨k,ok,hk,hok⟩:=at_m m (by omega)
           exact B4 D T hk hok (notL2 m k ok hk hok (.inr ⟨h1,h2⟩)))
         cases hx:(hr q)[id]? with
         | none=>left; rfl
         | some ob=>obtain ⟨ob',h1,h2⟩:=gr id ob hx; right; rw [h1]; simp [h2]
   · exact aBy opd ((aIq hk d.2).2 (hr p))

theorem aHo (D:DOK rx ops B) (I:Inv P G rx ops h0 env0 x hr zz X0 w0 S X w a p e) {i:Nat} {o:Oper} (hi:ops[i]? = some o) (hpre:∀ e,e ∈ anyPre o→S e) {p':Nat} (hp:p'≤(Rs ops).length)
   (ch:∀ (k:Nat) (ok:Oper),ops[k]? = some ok→Chg rx ops ok→((S k∨k=i)↔InR ops p' k)) {X':Ctx} {w':World} {a':Act} (g:GH G X' w' (hr p')) (eo:EnvOK X' w' (hr p') (gN e o.dst (x i)) a') (t:Tr X w (hr p) X' w' (hr p')) :
   Inv P G rx ops h0 env0 x hr zz X0 w0 (fun k=>S k∨k=i) X' w' a' p' (gN e o.dst (x i)):=by
 have hd:mS ops i=o.dst:=by simp [mS,hi]
 refine ⟨hp,g,hd ▸ I.ei.step D i,eo,I.tr.trans t,ch,?_,G7 I.cl hi hpre,?_⟩
 · intro q k hq hk
   obtain ⟨h1,h2⟩:=I.pend q k hq (fun s=>hk (.inl s))
   refine ⟨t.abs _ _ h1 h2,?_⟩
   obtain ⟨o',ho',c⟩:=t.ext.obj _ _ h1
   rw [t.abs _ _ h1 h2] at ho'
   cases ho'
   rcases c with c | ⟨_,c⟩
   · cases c
   · exact (c.resolve_right (by simp)).trans h2
 · rintro k (s | rfl)
   · exact I.lt k s
   · exact (aW.1 hi).1

theorem aYh (D:DOK rx ops B) (T:Told P G N rx ops h0 env0 x hr zz) (I:Inv P G rx ops h0 env0 x hr zz X0 w0 S X w a p e) {i:Nat} {o:Oper} (hi:ops[i]? = some o) (hS:¬ S i) (hpre:∀ e,e ∈ anyPre o→S e)
   {Q:Exit→Act→World→Prop} {K:Act→World→Prop} (hK:∀ X' w' a' p' e',Inv P G rx ops h0 env0 x hr zz X0 w0 (fun k=>S k∨k=i) X' w' a' p' e'→K a' w'):wpOp P ops Q i K a w:=by
 unfold wpOp
 simp only [hi]
 have hd:mS ops i=o.dst:=by simp [mS,hi]
 cases hf:iN o with
 | true=>
   obtain ⟨_,_,hg,_⟩:=F2 hf
   have hiF:i ∈ Fs ops:=yP.2 ⟨(aW.1 hi).1,by simp only [mJ,hi]; exact hf⟩
   obtain ⟨q,hq⟩:=cS.1 hiF
   obtain ⟨o',Ty,ho',hop,hz,hx,hbox⟩:=T.free q i hq
   rw [hi] at ho'; cases ho'
   have hw:Region.wanted o (yielded ops a.tmps)=true:=by simp [Region.wanted,hg]
   rw [if_pos hw]
   refine .inl ?_
   obtain ⟨hid,hι⟩:=I.pend q i hq hS
   obtain ⟨iz,zv,hiz,hizv,hzc⟩:=iD hz
   obtain ⟨h1,h2,h3⟩:=mX (X:=X) (w:=w) (h:=hr p) hzc
   have pp:=gO.alloc w (.cells zv.cells Ty (0,0))
   obtain ⟨ex,g',st⟩:=bHx I.g pp hid hι h1 h2 h3
   have hrun:(execOp a.eval o).run P w=.ok (.value (.pointer (some ⟨w.heap.size,0,Option.none⟩))) (w.alloc (.cells zv.cells Ty (0,0))):=by
     have hnr:(newRow Ty zv.cells).run P w=.ok ⟨w.heap.size,0,Option.none⟩ (w.alloc (.cells zv.cells Ty (0,0))):=rfl
     unfold execOp
     simp only [hop]
     simp [Instr.alloc,nX hiz hizv,newVar,hnr]
   unfold Oper.wp
   rw [hrun]
   simp only [Oper.upon]
   have rp:RV (X.upd (h0.length+q) (some (w.heap.size,0))) (w.alloc (.cells zv.cells Ty (0,0))) (hr p) (x i) (.pointer (some ⟨w.heap.size,0,Option.none⟩)):=by
     rw [hx]
     have:=RV.ptr (X:=X.upd (h0.length+q) (some (w.heap.size,0))) (w:=w.alloc (.cells zv.cells Ty (0,0))) (h:=hr p) (id:=h0.length+q) (off:=0) (ob:=.box false (zz i)) (b:=w.heap.size) (o:=0) hid (by simp) (Ctx.upd_same _ _ _)
     simpa using this
   refine hK _ _ _ p (gN e o.dst (x i)) ⟨I.hp,g',hd ▸ I.ei.step D i,?_,⟨I.tr.step.trans st,?_,I.tr.abs⟩,?_,?_,G7 I.cl hi hpre,?_⟩
   · exact EnvOK.put ⟨I.eo.defers,I.eo.size,fun j y v hy hv=>(I.eo.rel j y v hy hv).monoW ex⟩ _ rp
   · refine ⟨fun b hb=>I.tr.ext.fr b hb,fun b hb=>(ex.keep b (I.tr.ext.fr b hb)).trans (I.tr.ext.keep b hb),fun b s hs=>ex.shp b s (I.tr.ext.shp b s hs),fun k ob hk=>?_⟩
     obtain ⟨ob',ho',c⟩:=I.tr.ext.obj k ob hk
     refine ⟨ob',ho',c.imp id (fun c=>⟨c.1,?_⟩)⟩
     rw [Ctx.upd_other _ _ (by have:=aQ hk; omega)]
     exact c.2
   · intro k ok hok hck
     rw [← I.ch k ok hok hck]
     constructor
     · rintro (s | rfl)
       · exact s
       · rw [hi] at hok; cases hok
         rcases hck with c | c <;> (rw [bYr.2 hf] at c; cases c)
     · exact .inl
   · intro q' k hq' hk
     obtain ⟨p1,p2⟩:=I.pend q' k hq' (fun s=>hk (.inl s))
     refine ⟨p1,?_⟩
     have hne:q' ≠ q:=fun h=>by subst h; rw [hq] at hq'; cases hq'; exact hk (.inr rfl)
     rw [Ctx.upd_other _ _ (by omega)]
     exact p2
   · rintro k (s | rfl)
     · exact I.lt k s
     · exact (aW.1 hi).1
 | false =>
   obtain ⟨eT,q,H⟩:=cBh D T I hi hS hpre hf
   have go:OpD P G N rx ops o eT (hr q) (x i) (hr (q+1))→o.wp P a w K Q:=by
     intro d
     obtain ⟨p',hp',d',ch⟩:=H.run d
     refine bNj I.g I.eo d' ?_
     intro a' w' X' g' r' t
     exact hK _ _ _ _ _ (aHo D I hi hpre hp' ch g' r' t)
   have stop:hr (q+1)=hr q→x i=.tup []→K (a.put o.dst undef) w:=by
     intro d hx
     obtain ⟨p',hp',hh,ch⟩:=H.drop d
     refine hK X w (a.put o.dst undef) p' _ (aHo D I hi hpre hp' ch (by rw [hh]; exact I.g) (by rw [hh,hx]; exact I.eo.put _ (.tup (vs := #[]) rfl (by simp))) (by rw [hh]; exact .refl _ _ _))
   have hat:=H.at_
   unfold OpAt at hat
   cases hg:o.guard with
   | none=>
     rw [hg] at hat
     have hw:Region.wanted o (yielded ops a.tmps)=true:=by simp [Region.wanted,hg]
     rw [if_pos hw]
     exact .inl (go hat)
   | some gq=>
     obtain ⟨j,want⟩:=gq
     rw [hg] at hat
     obtain ⟨d,b,hdj,hb,h1,h2⟩:=hat
     have hx:yR (e.getD d .u) want=.b b:=by
       rw [H.agree d (by
         unfold ouses bXs
         rw [hg]
         refine dC _ (dC _ ?_)
         have:((ops[j]?).bind fun x=>x.dst)=some d:=hdj
         simp [this])]
       exact hb
     rw [Y1 I.eo hg hdj hx]
     cases b with
     | true=>
       simp only [if_true]
       exact .inl (go (h1 rfl))
     | false=>
       simp only [aM,if_false]
       obtain ⟨e1,e2⟩:=h2 rfl
       exact stop e2 e1

theorem aCb {α:Type} {p q:α→Bool}:∀ (l:List α),(∀ y ∈ l,q y=true→p y=true)→(∃ y ∈ l,p y=true∧q y=false)→l.countP q < l.countP p
 | [],_,h=>by obtain ⟨y,hy,_⟩:=h; cases hy
 | y :: l,hs,h=>by
   have hle:l.countP q≤l.countP p:=List.countP_mono_left (fun z hz=>hs z (by simp [hz]))
   rw [List.countP_cons,List.countP_cons]
   by_cases hy:p y=true∧q y=false
   · rw [hy.1,hy.2]; simp; omega
   · have h':∃ z ∈ l,p z=true∧q z=false:=by
       obtain ⟨z,hz,hpz⟩:=h
       rcases bT.1 hz with rfl | hz
       · exact absurd hpz hy
       · exact ⟨z,hz,hpz⟩
     have:=aCb l (fun z hz=>hs z (by simp [hz])) h'
     have h1:=hs y (by simp)
     cases hq:q y with
     | true=>rw [h1 hq]; omega
     | false=>simp; omega

theorem lQ {o:Oper} {e:Nat}:e ∈ anyPre o↔∃ d ∈ o.after,Region.binds .any d=true∧d.on=e:=by
 unfold anyPre
 simp only [dQ,eG,Array.mem_toList_iff]
 constructor
 · rintro ⟨d,⟨h1,h2⟩,h3⟩; exact ⟨d,h1,h2,h3⟩
 · rintro ⟨d,h1,h2,h3⟩; exact ⟨d,⟨h1,h2⟩,h3⟩

def rG (l:Array Bool) (i:Nat):Prop:=l.getD i false=true

theorem bSp (D:DOK rx ops B) (T:Told P G N rx ops h0 env0 x hr zz) {Q:Exit→Act→World→Prop} (hQ:∀ X w a p e,Inv P G rx ops h0 env0 x hr zz X0 w0 (fun i=>i < ops.size) X w a p e→Q .normal a w) :
   ∀ (fuel:Nat) (l:Array Bool),l.size=ops.size→(List.range ops.size).countP (fun i => !l.getD i true)≤fuel→∀ (X:Ctx) (w:World) (a:Act) (p:Nat) (e:List AV),Inv P G rx ops h0 env0 x hr zz X0 w0 (rG l) X w a p e →
     wpAny P .any ops Q fuel l a w:=by
 have all:∀ (l:Array Bool),l.size=ops.size→Region.ready .any ops l=[]→∀ i,i < ops.size→rG l i:=by
   intro l hl hr i
   induction i using Nat.strongRecOn with
   | ind i ih=>
     intro hi
     have ho:ops[i]? = some ops[i]:=by simp [hi]
     have hn:i ∉ Region.ready .any ops l:=by rw [hr]; simp
     rw [mem_ready] at hn
     have hpre:∀ d ∈ ops[i].after,Region.binds .any d=true→l.getD d.on false=true:=by
       intro d hd hb
       have hlt:=D.lt i ops[i] ho d.on (lQ.2 ⟨d,hd,hb,rfl⟩)
       exact ih d.on hlt (by omega)
     unfold rG
     have hli:i < l.size:=by omega
     cases hc:l[i] with
     | true=>simp [Array.getD,hli,hc]
     | false=>exact absurd ⟨by simp [Array.getD,hli,hc],ops[i],ho,hpre⟩ hn
 have fin:∀ (l:Array Bool),l.size=ops.size→Region.ready .any ops l=[]→∀ X w a p e,Inv P G rx ops h0 env0 x hr zz X0 w0 (rG l) X w a p e→Q .normal a w:=by
   intro l hl hr X w a p e I
   have hs:(rG l)=(fun i=>i < ops.size):=funext fun i=>propext ⟨I.lt i,all l hl hr i⟩
   exact hQ X w a p e (hs ▸ I)
 intro fuel
 induction fuel with
 | zero=>
   intro l hl hc X w a p e I
   have hr:Region.ready .any ops l=[]:=by
     rw [tL]
     intro i hi
     obtain ⟨h1,o,ho,_⟩:=mem_ready.1 hi
     have hlt:i < ops.size:=(aW.1 ho).1
     have hz:(List.range ops.size).countP (fun i => !l.getD i true)=0:=by omega
     rw [List.countP_eq_zero] at hz
     have:=hz i (iQ.2 hlt)
     rw [h1] at this
     exact this rfl
   exact ⟨hr,fin l hl hr X w a p e I⟩
 | succ fuel ih=>
   intro l hl hc X w a p e I
   refine ⟨fun hr=>fin l hl hr X w a p e I,fun i hi=>?_⟩
   obtain ⟨h1,o,ho,hall⟩:=mem_ready.1 hi
   have hlt:i < ops.size:=(aW.1 ho).1
   have hli:i < l.size:=by omega
   have hf:l[i]=false:=by simpa [Array.getD,hli] using h1
   refine aYh D T I ho ?_ ?_ (fun X' w' a' p' e' I'=>ih (l.setIfInBounds i true) (by simp [hl]) ?_ X' w' a' p' e' ?_)
   · intro s
     unfold rG at s
     simp [Array.getD,hli,hf] at s
   · intro d hd
     obtain ⟨d',h1,h2,rfl⟩:=lQ.1 hd
     exact hall d' h1 h2
   · have:(List.range ops.size).countP (fun k => !(l.setIfInBounds i true).getD k true) < (List.range ops.size).countP (fun k => !l.getD k true):=by
       refine aCb _ ?_ ⟨i,iQ.2 hlt,by rw [h1]; rfl,by simp [Array.getD,hli]⟩
       intro k hk hk'
       by_cases hik:i=k
       · subst hik; rw [h1]; rfl
       · rw [getD_set_ne true hik] at hk'; exact hk'
     omega
   · have hs:(rG (l.setIfInBounds i true))=(fun k=>rG l k∨k=i):=funext fun k=>propext (by
       unfold rG
       by_cases hik:i=k
       · subst hik; simp [Array.getD,hli]
       · rw [getD_set_ne false hik]
         constructor
         · exact .inl
         · rintro (s | rfl)
           · exact s
           · exact absurd rfl hik)
     rw [hs]; exact I'

theorem aIo (hd:O8 rx ops=true) {al:List fZ} (hl:eJ rx ops (sC ops)=some al) {K:List AV→List AObj→Prop} {env:List AV} {h:List AObj} {X:Ctx} {w:World} {a:Act} {Q:Exit→Act→World→Prop}
   (e:dG P G (some N) al K env h) (g:GH G X w h) (r:EnvOK X w h env a) (hQ:∀ a' w',aCx G X w h K a' w'→Q .normal a' w'):wpAny P .any ops Q ops.size (Array.replicate ops.size false) a { w with drawn:=w.drawn+1 }:=by
 have D:=bDd hd
 obtain ⟨x,hr,zz,T,hK⟩:=bFd (P:=P) (G:=G) D hl e
 obtain ⟨g1,t1⟩:=bHv (w':={ w with drawn:=w.drawn+1 }) g rfl rfl rfl rfl
 obtain ⟨obs,hobs,hobs2⟩:=T.start
 obtain ⟨g2,t2⟩:=bHw g1 obs hobs2
 have t12:=t1.trans t2
 refine bSp (x:=x) (hr:=hr) (zz:=zz) (h0:=h) (env0:=env) (X0:=X) (w0:=w) D T ?_ ops.size (Array.replicate ops.size false) (by simp) (by
   have:=List.countP_le_length (p:=fun i => !(Array.replicate ops.size false).getD i true) (l:=List.range ops.size)
   simpa using this) X _ a 0 env ?_
 · intro X' w' a' p' e' I
   refine hQ a' w' ⟨e',hr (Rs ops).length,X',hK e' I.ei,?_⟩
   have heq:hr (Rs ops).length=hr p':=T1 _ I.hp (fun m h1 h2=>by
     have hm':(Rs ops)[m]? = some (Rs ops)[m]:=by simp [h2]
     have hlt:=(yO.1 (cP hm')).1
     refine (R6 D T hm' (ok:=ops[(Rs ops)[m]]) (by simp [hlt]) (fun hc=>?_)).2
     obtain ⟨m',hm1,hm2⟩:=(I.ch (Rs ops)[m] ops[(Rs ops)[m]] (by simp [hlt]) hc).1 hlt
     have:=aVa hm2 hm'
     omega)
   rw [heq]
   exact ⟨I.g,I.eo,I.tr⟩
 · have nol:∀ i,¬ rG (Array.replicate ops.size false) i:=by
     intro i s
     unfold rG at s
     by_cases hi:i < ops.size <;> simp [Array.getD,hi] at s
   have hs:rG (Array.replicate ops.size false)=fun _=>False:=funext fun i=>propext ⟨nol i,False.elim⟩
   refine ⟨aG _,hobs ▸ g2,hs ▸ EnvIs.start,hobs ▸ r.mono t12.ext,hobs ▸ t12,?_,?_,?_,?_⟩
   · intro i o _ _
     exact ⟨fun s=>absurd s (nol i),fun ⟨m,hm,_⟩=>by omega⟩
   · intro q i hq _
     obtain ⟨o,Ty,_,_,_,_,hb⟩:=T.free q i hq
     refine ⟨hb,?_⟩
     cases hi:X.ι (h.length+q) with
     | none=>rfl
     | some bo=>
       obtain ⟨ob,hob⟩:=g.dom _ _ hi
       have:=aQ hob
       omega
   · intro i o s; exact absurd s (nol i)
   · intro i s; exact absurd s (nol i)
theorem bIs (hm:P.follows .mixedOrders=true) {id:Nat} (hd:O8 rx ops=true) {al:List fZ} (hl:eJ rx ops (sC ops)=some al) {K:List AV→List AObj→Prop} {env:List AV} {h:List AObj} {X:Ctx} {w:World} {a:Act} {Q:Exit→Act→World→Prop}
   (e:dG P G (some N) al K env h) (g:GH G X w h) (r:EnvOK X w h env a) (hQ:∀ a' w',aCx G X w h K a' w'→Q .normal a' w'):(Code.region id ops true).wp P Q a w:=
 wp_region_any hm (aIo hd hl e g r hQ)
end
end Go.Vo
