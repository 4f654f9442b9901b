/-
  The abstract layer, part Mc: maps.Clone of the library. It speaks of any program; no condition.
-/
import Derived.Test.YtdjcggcjlphdoaaGreatDoorVoP23
import Derived.Test.YtdjcggcjlphdoaaGreatDoorVoP18
set_option linter.unusedVariables false
set_option linter.unusedSimpArgs false
namespace Go.Vo
section
variable {P:Program} {G:Md} {ops:Array Oper}
structure cGb(X:Ctx)(w:World)(h:List AObj)(b:Nat)(ks vs:List AV)(es:Array MapEntry)(clock:Nat):Prop where
 at_:w.heap[b]? = some (.map es clock)
 kl:ks.length=es.size
 vl:vs.length=es.size
 kr:∀(j:Nat) (a:AV) (e:MapEntry),ks[j]? = some a→es[j]? = some e→RV X w h a e.key
 vr:∀(j:Nat) (a:AV) (e:MapEntry),vs[j]? = some a→es[j]? = some e→RV X w h a e.val
 bl:∀(j:Nat) (e:MapEntry),es[j]? = some e→e.born<clock
 bi:∀(j k:Nat) (e e':MapEntry),es[j]? = some e→es[k]? = some e'→e.born=e'.born→j=k
def bSd(h:List AObj)(m:AV)(ks vs:List AV):Prop:=m=.mapv ks vs∨∃id fz,m=.mp id∧h[id]? = some (.map fz ks vs)
theorem bJk{X:Ctx}{w:World}{h:List AObj}{m:AV}{v:Value}{ks vs:List AV}(g:GH G X w h)(r:RV X w h m v)(hm:bSd h m ks vs):∃b es clock,v=.map (some b)∧cGb X w h b ks vs es clock:=by
 rcases hm with rfl|⟨id,fz,rfl,hid⟩
 ·cases r with
  |dead hr _ _=>simp[AV.refs]at hr
  |mapv h1 h2 h3 h4 h5 h6 h7 h8=>exact⟨_,_,_,rfl,h2,h3,h4,h5,h6,h7,h8⟩
 ·cases r with
  |dead hr hd _=>simp only[AV.refs,aB]at hr;subst hr;rw[hid]at hd;cases hd
  | @mp _ _ _ _ b hid' hι=>
    have ok:=g.objs _ _ hid;cases ok with
    |absent h0=>rw[h0]at hι;cases hι
    |map i0 h2 _ _ h3 h4 h5 h6 h7 h8=>
     rw[i0]at hι;simp only[aB,bH]at hι;obtain⟨rfl,_⟩:=hι;exact⟨_,_,_,rfl,h2,h3,h4,h5,h6,h7,h8⟩
theorem aTu(T:TypeId)(b:Nat)(es:Array MapEntry)(clock:Nat)(w:World)(hb:w.heap[b]? = some (.map es clock)) :
 (Extern.MapsClone.clone #[.iface T (.map (some b))]).run P w=.ok (.iface T (.map (some w.heap.size))) (w.alloc (.map es clock)):=by
 have e:Extern.MapsClone.clone #[.iface T (.map (some b))]=(getObj b >>= fun o=>match o with
  | .map entries clock=>(newObj (.map entries clock) >>= fun n=>pure (Value.iface T (.map (some n))))
  |_=>stuck "maps.clone: a map expected"):=rfl
 have h1:(getObj b).run P w=.ok (.map es clock) w:=by
  simp[getObj,Sem.run,hb]
 rw[e];simp[h1,cD,Result.andThen]
theorem aJs{X:Ctx}{w:World}{h:List AObj}{env:List AV}{a:Act}{o1 o2 o3:Oper}{f:FuncId}{tys:Array TypeId}{T TI A B:TypeId}{j d1 d2:Nat}{m:AV}{ks vs:List AV}{K:List AV→List AObj→Prop}
 (ho1:o1.op=.makeInterface T (.tmp j)) (hd1:o1.dst=some d1) (hg1:o1.guard=none)
 (ho2:o2.op=.call ⟨.value (.func f),#[.tmp d1],tys⟩) (hd2:o2.dst=some d2) (hg2:o2.guard=none)
 (ho3:o3.op=.typeAssert (.tmp d2) TI T false) (hg3:o3.guard=none)
 (hx:∀(x:Value) (w:World),(callFunc f #[x]).run P w=((Extern.MapsClone.clone #[x]).run P w).andThen fun v w'=>.ok (.value v) w')
 (hT:P.underlying T=some (.map A B)) (hj:env[j]? = some m) (hm:bSd h m ks vs) (hl1:d1<env.length) (hl2:d2<env.length)
 (k:K (iV ((env.set d1 .u).set d2 .u) o3.dst (.mp h.length)) (h++[.map false ks vs]))
 (g:GH G X w h) (r:EnvOK G.ds X w h env a):wpList P ops (fun e a' w'=>e=.normal∧mI G X w h K a' w') [o1,o2,o3] a w:=by
 obtain⟨b,es,clock,hv,ma⟩:=bJk g (r.at hj) hm;have hs1:d1<a.tmps.size:=r.size▸hl1;refine tT (v:=.iface T (.map (some b))) (w':=w) hg1 ?_ ?_
 ·simp only[execOp,ho1,hv];unfold Instr.makeInterface;simp[run_underlying hT]
 have r2:=r.put (some d1) (x:=.u) (v:=.iface T (.map (some b))) (.u _);have hv2:(a.put (some d1) (.iface T (.map (some b)))).eval (.tmp d1)=.iface T (.map (some b)):=by simp[Act.eval,Act.put,hs1]
 rw[hd1];generalize a.put (some d1) (.iface T (.map (some b)))=a2 at r2 hv2;have hs2:d2<a2.tmps.size:=by have:=r2.size;simp[iV]at this;omega
 have hw2:(execOp a2.eval o2).run P w=.ok (.value (.iface T (.map (some w.heap.size)))) (w.alloc (.map es clock)):=by
  have he:(execOp a2.eval o2).run P w=(callFunc f #[a2.eval (.tmp d1)]).run P w:=by
   simp[execOp,ho2,resolve,Deferred.ofValue,invoke,Act.eval]
  rw[he,hv2,hx,aTu T b es clock w ma.at_];rfl
 refine tT hg2 hw2 ?_;have r3:=r2.put (some d2) (x:=.u) (v:=.iface T (.map (some w.heap.size))) (.u _);have hv3:(a2.put (some d2) (.iface T (.map (some w.heap.size)))).eval (.tmp d2)=.iface T (.map (some w.heap.size)):=by simp[Act.eval,Act.put,hs2]
 rw[hd2];generalize a2.put (some d2) (.iface T (.map (some w.heap.size)))=a3 at r3 hv3;have hp:=iD.alloc w (.map es clock);have e:=rG g hp.grew (.map false ks vs) (some (w.heap.size,0));obtain⟨g',t'⟩:=qP g hp (.map false ks vs) (.map (Ctx.upd_same _ _ _) hp.at (by simp) (fun _ hf=>by have:=g.fbnd _ hf;omega) ma.kl ma.vl
  (fun j a e' h1 h2=>(ma.kr j a e' h1 h2).mono e) (fun j a e' h1 h2=>(ma.vr j a e' h1 h2).mono e) ma.bl ma.bi)
 refine tT (v:=.map (some w.heap.size)) (w':=w.alloc (.map es clock)) hg3 ?_ ⟨rfl,_,_,_,k,g',?_,t'⟩
 ·simp only[execOp,ho3,hv3];unfold Instr.typeAssert;simp[run_underlying hT]
 ·have r4:=(r3.mono t'.ext).put o3.dst (x:=.mp h.length) (v:=.map (some w.heap.size)) (.mp (fz:=false) (ks:=ks) (vs:=vs) (by simp) (Ctx.upd_same _ _ _));simpa[iV]using r4
theorem aEr{X:Ctx}{w:World}{h:List AObj}{env:List AV}{a:Act}{o:Oper}{T A B U:TypeId}{j:Nat}{m:AV}{ks vs:List AV}{K:List AV→List AObj→Prop}
 (ho:o.op=.binOp .eql T (.tmp j) (.const (.map none)) U) (hg:o.guard=none) (hT:P.underlying T=some (.map A B)) (hj:env[j]? = some m) (hm:bSd h m ks vs)
 (k:K (iV env o.dst (.b false)) h) (g:GH G X w h) (r:EnvOK G.ds X w h env a):wpList P ops (fun e a' w'=>e=.normal∧mI G X w h K a' w') [o] a w:=by
 obtain⟨b,es,clock,hv,ma⟩:=bJk g (r.at hj) hm;refine tT (v:=.bool false) (w':=w) hg ?_ ⟨rfl,_,h,X,k,g,r.put o.dst (.b _),.refl _ _ _⟩;have h1:(Op.equalIn (9999+1) T (.map (some b)) (.map none)).run P w=.ok false w:=by
  unfold Op.equalIn;rw[cD,run_underlying hT];rfl
 have hy:a.eval (.const (.map none))=.map none:=rfl;have h2:(binOp .eql T (.map (some b)) (.map none)).run P w=.ok (.bool false) w:=by
  simp only[binOp,Op.equal,Op.maxDepth];simp[h1]
 have h3:(eqGuard .eql T (.tmp j) (.const (.map none)) (.map (some b)) (.map none)).run P w=.ok () w:=by simp[eqGuard]
 unfold execOp;simp only[ho,hv,hy];simp[h2,h3]
end
def aHj(P:Program)(G:Glob)(f:FuncId)(args:List AV)(r:AV)(b:Bool)(v:Value):Prop:=(b=false→Ctr P G f args r)∧(b=true→cBg P G f args v)
abbrev xmd(g:Glob)(b:Bool)(v:Value):Md:=⟨g,fun v' _ _=>b=true∧v'=v,[]⟩
section
variable {P:Program} {M:Md} {N:DR} {d:Option Nat} {os:List gA} {K:List AV→List AObj→Prop} {env:List AV} {h:List AObj}
theorem bPd{T:TypeId}{x:Operand}:ckV P M N (.load T x) d os K env h=(lS N (aev M.g env x)∧fG P M (some N) (.load T x) d os K env h):=by rw[← aZe (T:=T)];rfl
theorem aFc{T:TypeId}{x:Operand}{f:Nat}:ckV P M N (.fieldAddr T x f) d os K env h=(lS N (aev M.g env x)∧fG P M (some N) (.fieldAddr T x f) d os K env h):=by rw[← E9 (T:=T) (f:=f)];rfl
theorem aFb{T:TypeId}{x i:Operand}:ckV P M N (.indexAddr T x i) d os K env h=((lS N (aev M.g env x)∧lS N (aev M.g env i))∧fG P M (some N) (.indexAddr T x i) d os K env h):=by rw[← aGi (T:=T)];rfl
theorem bVq{T:TypeId}{x:Operand}:ckV P M N (.call ⟨.builtin .len,#[x],#[T]⟩) d os K env h=(lS N (aev M.g env x)∧fG P M (some N) (.call ⟨.builtin .len,#[x],#[T]⟩) d os K env h):=by rw[← bZz (T:=T)];rfl
theorem aWl{T:TypeId}{s x:Operand}:ckV P M N (.call ⟨.builtin .append,#[s,x],#[T,T]⟩) d os K env h=(wU N (aev M.g env s)∧fG P M (some N) (.call ⟨.builtin .append,#[s,x],#[T,T]⟩) d os K env h):=by rw[← aGj (T:=T) (x:=x)];rfl
attribute [go_sem ↓] bPd aFc aFb bVq aWl
end
theorem lG{rx:Bool}{th:Nat→Option TH}{P:Program}(hm:P.follows .mixedOrders=true){G:Glob}{f:FuncId}{fn:Func}{c:Code}{ac:kN}{args:List AV}{r:AV}{b:Bool}{v:Value}(hf:P.funcs[f]? = some fn)(hb:fn.body=some c)(hcal:iC P f=true)(hd:jF rx th c=true)(hs:strip rx th c=some ac)(hG:oR G)
 (h:awx P (xmd G b v) ac (fun e env h=>b=false∧(e=.normal∨e=.ret)∧∃x,R4 P fn.results.toList env h=some x∧Fin h x r) (args++List.replicate (fn.ntmps-args.length) .u) []):aHj P G f args r b v:=by
 refine⟨fun e=>?_,fun e=>?_⟩
 ·subst e;have hx:xmd G false v=pl G:=by simp[xmd,pl]
  rw[hx]at h;exact qV hm hf hb hcal hd hs hG (lW (fun x env h k=>k.2) h)
 ·subst e;have hx:xmd G true v=pmd G v:=by simp[xmd,pmd]
  rw[hx]at h;exact aPm hm hf hb hcal hd hs hG (lW (fun x env h k=>by cases k.1) h)
theorem wV{P:Program}{G:Md}{d:Option Nat}{os:List gA}{K:List AV→List AObj→Prop}{env:List AV}{h:List AObj}{f:FuncId}{A A':List AV}{r:AV}{b:Bool}{v:Value}(s:aHj P G.g f A' r b v)(hA:A.map (gZ dep h)=A')
 (kp:b=true→G.pan v env h) (k:b=false→dN P G none os K (iV env d (mat r (gU r h A)).1) (mat r (gU r h A)).2):tM P G none f A d os K env h:=by
 cases b with
 |true=>exact .inr (rI.sem (hA▸s.2 rfl) (kp rfl))
 |false=>exact dA (s.1 rfl) hA (k rfl)
theorem aBp{P:Program}{G:Md}{d:Option Nat}{os:List gA}{K:List AV→List AObj→Prop}{env:List AV}{h:List AObj}{f:FuncId}{A A':List AV}{r:AV}{b:Bool}{v:Value}(mk:Bool→List AObj)(s:aHj P G.g f A' r b v)(hm:∀H,mat r H=(r,H))(hA:A.map (gZ dep h)=A')(e0:h=mk false)(e1:Vo.freeze (A.flatMap (eH dep h)) h=mk true)
 (kp:b=true→G.pan v env h) (k:∀fz,b=false→dN P G none os K (iV env d r) (mk fz)):tM P G none f A d os K env h:=by
 refine wV s hA kp fun hb=>?_;rw[hm];show dN P G none os K (iV env d r) (gU r h A);rw[gU];split
 ·rw[e0];exact k false hb
 ·rw[e1];exact k true hb
theorem aYl{P:Program}{G:Glob}{f:FuncId}{A:List AV}{r:AV}(v:Value)(c:Ctr P G f A r):aHj P G f A r false v:=⟨fun _=>c,fun h=>by cases h⟩
section
variable {P:Program} {pre:Array Oper} {o:Oper} {Q:Exit→Act→World→Prop}
theorem V9{l:Array Bool}{i:Nat}{d:Bool}(h:i<l.size):(l.push true).getD i d=l.getD i d:=by
 simp[Array.getD,h,J3,Nat.lt_succ_of_lt h]
theorem xD{l:Array Bool}{i:Nat}(hlt:∀i p,pre[i]? = some p→∀e∈anyPre p,e<i)(hl:l.size=pre.size):i∈Region.ready .any (pre.push o) (l.push true)↔i∈Region.ready .any pre l:=by
 by_cases hi:i<pre.size
 ·rw[mem_ready,mem_ready,sD hi,V9 (by omega)];have ho:pre[i]? = some pre[i]:=by simp[hi]
  rw[ho];have h1:∀d∈pre[i].after,Region.binds .any d=true→(l.push true).getD d.on false=l.getD d.on false:=fun d hd hb=>V9 (by have:=hlt i _ ho d.on (iJ.2 ⟨d,hd,hb,rfl⟩);omega);constructor
  ·rintro⟨a,p,hp,hall⟩;cases hp;exact⟨a,_,rfl,fun d hd hb=>(h1 d hd hb).symm.trans (hall d hd hb)⟩
  ·rintro⟨a,p,hp,hall⟩;cases hp;exact⟨a,_,rfl,fun d hd hb=>(h1 d hd hb).trans (hall d hd hb)⟩
 ·constructor
  ·intro h;exfalso;obtain⟨h1,p,hp,_⟩:=mem_ready.1 h;have hlt2:=(aY.1 hp).1;rw[oA]at hlt2;obtain rfl:i=pre.size:=by omega
   rw[← hl]at h1;simp[Array.getD]at h1
  ·intro h;exfalso;obtain⟨h1,p,hp,_⟩:=mem_ready.1 h;exact hi (aY.1 hp).1
theorem aGv(hlt:∀i p,pre[i]? = some p→∀e∈anyPre p,e<i)(hg:uO pre=true):∀(fuel:Nat) (l:Array Bool) (a:Act) (w:World),l.size=pre.size→wpAny P .any pre Q fuel l a w→wpAny P .any (pre.push o) Q fuel (l.push true) a w
 |0,l,a,w,hl,h=>⟨(by
  rw[iH];intro i hi;have:=(xD hlt hl).1 hi;rw[h.1]at this;exact absurd this (by simp)),h.2⟩
 |fuel+1,l,a,w,hl,h=>⟨fun hr=>h.1 (by
  rw[iH];intro i hi;have:=(xD (o:=o) hlt hl).2 hi;rw[hr]at this;exact absurd this (by simp)),fun i hi=>by
  have hi':=(xD hlt hl).1 hi;have hin:i<pre.size:=by obtain⟨_,p,hp,_⟩:=mem_ready.1 hi';exact(aY.1 hp).1
  have hp:pre[i]? = some pre[i]:=by simp[hin]
  have h2:=h.2 i hi';have hset:(l.push true).setIfInBounds i true=(l.setIfInBounds i true).push true:=by
   have hli:i<l.size:=by omega
   apply U7
   ·simp
   ·intro k h1 h2;have q1:=cL (xs:=l.push true) (i:=i) (j:=k) (a:=true);rw[bW h1]at q1;have q2:=eN (xs:=l.setIfInBounds i true) (x:=true) (i:=k);rw[bW h2]at q2;apply fR;rw[q1,q2,cL,eN];simp only[oA,mD];by_cases hik:i=k
    ·subst hik;rw[if_pos rfl,if_pos (by omega),if_neg (by omega),if_pos rfl,if_pos hli]
    ·rw[if_neg hik];by_cases hkl:k=l.size
     ·rw[if_pos hkl,if_pos hkl]
     ·rw[if_neg hkl,if_neg hkl,if_neg hik]
  have K:∀a w,wpAny P .any pre Q fuel (l.setIfInBounds i true) a w→wpAny P .any (pre.push o) Q fuel ((l.push true).setIfInBounds i true) a w:=fun a w q=>by
   rw[hset];exact aGv hlt hg fuel _ a w (by simp[hl]) q
  unfold wpOp at h2 ⊢;rw[sD hin,hp];rw[hp]at h2;dsimp only at h2 ⊢;rw[xA hg hp];by_cases hw:Region.wanted pre[i] (yielded pre a.tmps)=true
  ·rw[if_pos hw]at h2 ⊢;rcases h2 with h2|⟨h2,h3⟩
   ·exact .inl (wN K h2)
   ·exact .inr ⟨h2,h3⟩
  ·rw[if_neg hw]at h2 ⊢;exact K _ _ h2⟩
end
section
variable {P:Program} {G:Md} {N:DR} {rx:RX}
theorem bHi(hm:P.follows .mixedOrders=true){id:Nat}{ops pre:Array Oper}{l:List Oper}{m:Oper}{d:Nat}{c:Value}{al al2:List gA}{Q:Exit→List AV→List AObj→Prop}{env:List AV}{h:List AObj}
 (hops:ops=(pre++l.toArray).push m) (hd:uQ rx pre=true) (ht:D8 pre l=true) (hgd:uO (pre++l.toArray)=true) (hap:∀i p,(pre++l.toArray)[i]? = some p→∀e∈anyPre p,e<i) (hl:bY rx pre (fT pre)=some al) (ho:bY .off (pre++l.toArray) l=some al2)
 (hmd:m.dst=some d) (hmo:m.op=.move (.const c)) (hmg:m.guard=none) (hma:anyPre m=[]) (hs:Region.noSelect ops=true) (hf:Region.free .any ops (Array.replicate ops.size false) (pre.size+l.length)=true)
 (hpan:∀v env env' h,G.pan v env h→G.pan v env' h)
 (e:dN P G (some N) al (fun env h=>dN P G Option.none al2 (Q .normal) env h) (env.set d (aZw c)) h):AW P G (.region id ops true) Q env h:=by
 intro X w a g r;have D:=aYf hd;have hn:ops.size=(pre.size+l.length)+1:=by rw[hops,oA,kP];rfl
 refine wp_region_any hm ?_;have hget:ops[pre.size+l.length]? = some m:=by rw[hops,eN,if_pos (by simp)]
 have hnorep:Array.replicate ops.size false=(Array.replicate (pre++l.toArray).size false).push false:=by
  rw[hn];apply U7
  ·simp
  ·intro k h1 h2;simp[J3]
 rw[hn];refine wpAny_take (oi:=m) (v:=c) hget hs (by rw[← hn];exact hf) ?_ ?_ ?_ ?_
 ·have:pre.size+l.length∈Region.ready .any ops (Array.replicate (pre.size+l.length+1) false):=by
   rw[mem_ready];refine⟨by simp[Array.getD],m,hget,fun dd hdd hb=>?_⟩;have:dd.on∈anyPre m:=iJ.2 ⟨dd,hdd,hb,rfl⟩;rw[hma]at this;cases this
  simpa using this
 ·rintro ch a' w' ⟨env',h',X',⟨v,hv,hp⟩,g',r',t'⟩;refine⟨env'.set d .u,h',X',⟨v,hv,hpan _ _ _ _ hp⟩,g',?_,t'⟩;have hsz:(a'.put m.dst c).tmps.size=a'.tmps.size:=by rw[hmd];simp[Act.put]
  refine⟨?_,?_,?_⟩
  ·have:=r'.defers;rw[hmd]at this;exact this
  ·rw[List.length_set,r'.size,hsz]
  ·intro j x v hx hv;by_cases hj:d=j
   ·subst hj;rw[jJ (by have:=bP hx;rwa[List.length_set]at this)]at hx;cases hx;exact .u _
   ·rw[dW hj]at hx;refine r'.rel j x v hx ?_;rw[hmd];simp only[Act.put];rw[Array.getElem?_setIfInBounds_ne hj];exact hv
 ·refine .inl ⟨by simp[Region.wanted,hmg],fun w=>?_⟩;simp[execOp,hmo,Act.eval]
 ·have hset:(Array.replicate (pre.size+l.length+1) false).setIfInBounds (pre.size+l.length) true=(Array.replicate (pre++l.toArray).size false).push true:=by
   apply U7
   ·simp
   ·intro k h1 h2;have h3:k<pre.size+l.length+1:=by simpa using h1
    have q1:=cL (xs:=Array.replicate (pre.size+l.length+1) false) (i:=pre.size+l.length) (j:=k) (a:=true);rw[bW h1]at q1;have q2:=eN (xs:=Array.replicate (pre++l.toArray).size false) (x:=true) (i:=k);rw[bW h2]at q2;apply fR;rw[q1,q2];simp only[aRy,kP,gN,Array.getElem?_replicate];by_cases hk:pre.size+l.length=k
    ·rw[if_pos hk,if_pos (by omega),if_pos hk.symm]
    ·rw[if_neg hk,if_pos h3,if_neg (show ¬k=pre.size+l.length by omega),if_pos (show k<pre.size+l.length by omega)]
  rw[hset,hops];refine aGv hap hgd _ _ _ _ (by simp) ?_;have r2:EnvOK G.ds X w h (env.set d (aZw c)) (a.put m.dst c):=by
   have:=r.put (some d) (jG g r (.const c));rw[hmd];exact this
  refine aCc l pre (fun i p hp=>D.lt i p hp) ht _ _ {w with drawn:=w.drawn+1} pre.size (zM hd hl e g r2 ?_);rintro a' w' ⟨env',h',X',k1,k2,k3,k4⟩;exact lX (ops:=pre++l.toArray) l al2 ho env' h' X' w' a' k1 k2 k3 (fun a2 w2 ⟨env2,h2,X2,m1,m2,m3,m4⟩=>⟨env2,h2,X2,m1,m2,m3,k4.trans m4⟩)
   (fun _ v a2 w2 ⟨env2,h2,X2,m1,m2,m3,m4⟩=>⟨env2,h2,X2,⟨v,rfl,m1⟩,m2,m3,k4.trans m4⟩)
def aYh(ops:Array Oper):Bool:=(List.range ops.size).all fun i=>match ops[i]? with
 |some p=>(anyPre p).all fun e=>decide (e<i)
 |Option.none=>true
theorem C4{ops:Array Oper}(h:aYh ops=true):∀i p,ops[i]? = some p→∀e∈anyPre p,e<i:=by
 intro i p hp e he;simp only[aYh,bF,fE]at h;have:=h i (aY.1 hp).1;rw[hp]at this;simpa using bF.1 this e he
def bJn(rx:RX)(k n:Nat)(ops:Array Oper):Bool:=
 uQ rx (ops.toList.take k).toArray&&(D8 (ops.toList.take k).toArray ((ops.toList.drop k).take n)&&(uO ((ops.toList.take k).toArray++((ops.toList.drop k).take n).toArray)&&(aYh ((ops.toList.take k).toArray++((ops.toList.drop k).take n).toArray) &&
  (Region.noSelect ops&&Region.free .any ops (Array.replicate ops.size false) ((ops.toList.take k).toArray.size+((ops.toList.drop k).take n).length)))))
theorem aGq(hm:P.follows .mixedOrders=true){id:Nat}{ops:Array Oper}(k n d:Nat)(c:Value){al al2:List gA}(m:Oper){Q:Exit→List AV→List AObj→Prop}{env:List AV}{h:List AObj}
 (h1:ops.toList=(ops.toList.take k++(ops.toList.drop k).take n)++[m]) (hB:bJn rx k n ops=true) (hmd:m.dst=some d) (hmo:m.op=.move (.const c)) (hmg:m.guard=none) (hma:anyPre m=[])
 (hl:bY rx (ops.toList.take k).toArray (fT (ops.toList.take k).toArray)=some al) (ho:bY .off ((ops.toList.take k).toArray++((ops.toList.drop k).take n).toArray) ((ops.toList.drop k).take n)=some al2)
 (hpan:∀v env env' h,G.pan v env h→G.pan v env' h)
 (e:dN P G (some N) al (fun env h=>dN P G Option.none al2 (Q .normal) env h) (env.set d (aZw c)) h):AW P G (.region id ops true) Q env h:=by
 simp only[bJn,aA]at hB;obtain⟨b1,b2,b3,b4,b5,b6⟩:=hB;refine bHi hm (pre:=(ops.toList.take k).toArray) (l:=(ops.toList.drop k).take n) (m:=m) ?_ b1 b2 b3 (C4 b4) hl ho hmd hmo hmg hma b5 b6 hpan e;apply oS;rw[Array.toList_push,D6];exact h1
theorem aZt{c:Code}{Q:Exit→List AV→List AObj→Prop}{env:List AV}{h:List AObj}(j:Nat){x:AV}(hj:env[j]? = some x)(k:AW P G c Q (env.set j (gZ dep h x)) (Vo.freeze (eH dep h x) h)):AW P G c Q env h:=by
 intro X w a g r;obtain⟨X',g',r',t⟩:=pH g (r.at hj);exact wp_mono (k X' w a g' ((r.mono t.ext).tell fun _=>r')) fun e a' w' hh=>mI.trans t hh
theorem Z6{id:Nat}{ops:Array Oper}{al:List gA}{Q:Exit→List AV→List AObj→Prop}{env:List AV}{h:List AObj}(hl:bY .off ops ops.toList=some al)(e:dN P G Option.none al (Q .normal) env h):AW P G (.region id ops false) Q env h:=by
 intro X w a g r;exact wp_region_list (lX ops.toList al hl env h X w a e g r (fun a' w' k=>k) (fun _ v a' w' ⟨env2,h2,X2,m1,m2,m3,m4⟩=>⟨env2,h2,X2,⟨v,rfl,m1⟩,m2,m3,m4⟩))
theorem aZs{id:Nat}{ops:Array Oper}{al1 al3:List gA}{Q:Exit→List AV→List AObj→Prop}{env:List AV}{h:List AObj}(k j:Nat)(h1:bY .off ops (ops.toList.take k)=some al1)(h3:bY .off ops (ops.toList.drop k)=some al3)
 (H:dN P G Option.none al1 (fun env' h'=>dN P G Option.none al3 (Q .normal) (env'.set j (gZ dep h' (env'.getD j .u))) (Vo.freeze (eH dep h' (env'.getD j .u)) h')) env h):AW P G (.region id ops false) Q env h:=by
 intro X w a g r;refine wp_region_list ?_;rw[← cI k ops.toList];have hp:∀{X1:Ctx} {w1:World} {h1:List AObj},Tr X w h X1 w1 h1→∀v a' w',mI G X1 w1 h1 (G.pan v) a' w'→mI G X w h (bOb G Q (.panic [{v:=v,recovered:=false}])) a' w':=
  fun t v a' w' ⟨env2,h2,X2,m1,m2,m3,m4⟩=>⟨env2,h2,X2,⟨v,rfl,m1⟩,m2,m3,t.trans m4⟩
 refine U9 (lX (G:=G) _ al1 h1 env h X w a H g r ?_ (fun _ v a' w' k=>hp (.refl _ _ _) v a' w' k));rintro a1 w1 ⟨env1,h1',X1,k1,g1,r1,t1⟩;have hx:∃X2,GH G X2 w1 (Vo.freeze (eH dep h1' (env1.getD j .u)) h1')∧EnvOK G.ds X2 w1 (Vo.freeze (eH dep h1' (env1.getD j .u)) h1') (env1.set j (gZ dep h1' (env1.getD j .u))) a1∧Tr X1 w1 h1' X2 w1 (Vo.freeze (eH dep h1' (env1.getD j .u)) h1'):=by
  cases hj:env1[j]? with
  |some x=>
   have he:env1.getD j .u=x:=by rw[fN,hj];rfl
   rw[he];obtain⟨X2,g2,r2,t2⟩:=pH g1 (r1.at hj);exact⟨X2,g2,(r1.mono t2.ext).tell fun _=>r2,t2⟩
  |none=>
   have he:env1.getD j .u=.u:=by rw[fN,hj];rfl
   obtain⟨X2,g2,r2,t2⟩:=pH g1 (RV.u (X:=X1) (w:=w1) (h:=h1') undef);have hs:env1.set j (gZ dep h1' (env1.getD j .u))=env1:=List.set_eq_of_length_le (by rw[S2]at hj;exact hj);rw[hs,he];exact⟨X2,g2,r1.mono t2.ext,t2⟩
 obtain⟨X2,g2,r2,t2⟩:=hx;refine lX (G:=G) _ al3 h3 _ _ X2 w1 a1 k1 g2 r2 ?_ (fun _ v a' w' k=>hp (t1.trans t2) v a' w' k);rintro a3 w3 ⟨env3,h3',X3,k3,g3,r3,t3⟩;exact⟨env3,h3',X3,k3,g3,r3,t1.trans (t2.trans t3)⟩
theorem aBx{id:Nat}{ops:Array Oper}{al1 al3:List gA}{Q:Exit→List AV→List AObj→Prop}{env env1:List AV}{h h1':List AObj}(k j:Nat)(h1:bY .off ops (ops.toList.take k)=some al1)(h3:bY .off ops (ops.toList.drop k)=some al3)
 (H1:∀K:List AV→List AObj→Prop,K env1 h1'→dN P G Option.none al1 K env h)
 (H:dN P G Option.none al3 (Q .normal) (env1.set j (gZ dep h1' (env1.getD j .u))) (Vo.freeze (eH dep h1' (env1.getD j .u)) h1')):AW P G (.region id ops false) Q env h:=
 aZs k j h1 h3 (H1 _ H)
def cIf(G:Md)(K:List AV→List AObj→Prop)(env:List AV)(h:List AObj):Prop:=∀(X:Ctx) (w:World) (a:Act),GH G X w h→EnvOK G.ds X w h env a→mI G X w h K a w
theorem bRl{c:Code}{Q:Exit→List AV→List AObj→Prop}{env:List AV}{h:List AObj}(t:cIf G (fun e h=>AW P G c Q e h) env h):AW P G c Q env h:=by
 intro X w a g r;obtain⟨env',h',X',k,g',r',t'⟩:=t X w a g r;exact wp_mono (k X' w a g' r') fun e a' w' hh=>mI.trans t' hh
section
variable {env:List AV} {h:List AObj}
theorem aCy{K:List AV→List AObj→Prop}{b k i:Nat}{cells:List AV}{x:AV}(hb:h[b]? = some (.box false cells))(hi:env[i]? = some (.ptr b 0))(hk:cells[k]? = some x)(hn:b∉eH dep h x)
 (q:K env ((freeze (eH dep h x) h).set b (.box false (cells.set k (gZ dep h x))))):cIf G K env h:=by
 intro X w a g r;have hlt:=bP hi;have hlti:=bP hi;obtain⟨v,hv⟩:∃v,a.tmps[i]? = some v:=⟨_,bW (by have:=r.size;omega)⟩;have rp:=r.rel i _ v hi hv;obtain⟨b1,o1,hι,rfl⟩:∃b1 o1,X.ι b=some (b1,o1)∧v=.pointer (some ⟨b1,o1+0,Option.none⟩):=by
  cases rp with
  |ptr _ _ h3=>exact⟨_,_,h3,rfl⟩
  |dead hr hd _=>simp only[AV.refs,aB]at hr;subst hr;rw[hb]at hd;cases hd
 obtain⟨cs,T,fr,hw,hle,hc1,hcr⟩:∃cs T fr,w.heap[b1]? = some (.cells cs T fr)∧o1+cells.length≤cs.size∧(∀(j:Nat) (v:Value),j<cells.length→cs[o1+j]? = some v→v.oneCell'=true)∧(∀(j:Nat) (a:AV) (v:Value),cells[j]? = some a→cs[o1+j]? = some v→RV X w h a v):=by
  have ok:=g.objs _ _ hb;cases ok with
  |absent h0=>rw[h0]at hι;cases hι
  |box h0 h1 h2 h3 h4 h5 h6=>rw[h0]at hι;cases hι;exact⟨_,_,_,h1,h4,h5,h6⟩
 have hkl:=bP hk;obtain⟨u,hu⟩:∃u,cs[o1+k]? = some u:=⟨_,bW (by omega)⟩;obtain⟨X1,g1,r1,t1⟩:=pH g (hcr k x u hk hu);have hb':(freeze (eH dep h x) h)[b]? = some (.box false cells):=by rw[nE,hb,dO,if_neg hn]
 have rp1:=rp.mono t1.ext;have hι1:X1.ι b=some (b1,o1):=by
  cases rp1 with
  |ptr _ _ h3=>exact h3
  |dead hr hd _=>simp only[AV.refs,aB]at hr;subst hr;rw[hb']at hd;cases hd
 have ok1:=g1.objs _ _ hb';cases ok1 with
 |absent h0=>rw[h0]at hι1;cases hι1
 |box h0 h1 h2 h3 h4 h5 h6=>
 rw[h0]at hι1;cases hι1;rw[hw]at h1;cases h1;obtain⟨hnF,rfl⟩:=h3 rfl;obtain⟨g2,t2⟩:=sC (w':=w) (ob':=.box false (cells.set k (gZ dep h x))) g1 hb' h0 hnF (by simp[AObj.like]) rfl rfl rfl rfl (fun _ _=>rfl) (fun s hs=>hs) (fun ee=>by
  refine .box h0 hw (fun f=>by cases f) (fun _=>⟨hnF,rfl⟩) (by simpa using h4) (fun j v hj hv=>h5 j v (by simpa using hj) hv) ?_;intro j a v ha hv;by_cases hjk:k=j
  ·subst hjk;rw[jJ hkl]at ha;cases ha;rw[hu]at hv;cases hv;exact r1.mono ee
  ·rw[dW hjk]at ha;exact(h6 j a v ha hv).mono ee)
 exact⟨_,_,X1,q,g2,(r.mono t1.ext).mono t2.ext,t1.trans t2⟩
end
end
section
variable {P:Program} {pre:Array Oper} {o:Oper} {Q:Exit→Act→World→Prop}
def X9(L0:Nat→Bool)(pre:Array Oper)(o:Oper):Bool:=
 ((anyPre o).all fun e=>decide (e<pre.size)) &&
 (List.range pre.size).all fun i=>L0 i||(anyPre o).contains i||(List.range pre.size).any fun j=>decide (i<j)&&match pre[j]? with
  |some p=>(anyPre p).contains i
  |Option.none=>false
theorem aWk{L0:Nat→Bool}{l:Array Bool}(hL:X9 L0 pre o=true)(hc:Cl pre l)(h0:∀i,i<pre.size→L0 i=true→l.getD i false=true)(hd:∀e∈anyPre o,l.getD e false=true):∀i,i<pre.size→l.getD i false=true:=by
 simp only[X9,aA,bF,fE,cC]at hL;have key:∀k i,pre.size-i≤k→i<pre.size→l.getD i false=true:=by
  intro k;induction k with
  |zero=>intro i h1 h2;omega
  |succ k ih=>
   intro i h1 h2;rcases hL.2 i h2 with(h|h)|h
   ·exact h0 i h2 h
   ·exact hd i (jW.1 h)
   ·rw[gY]at h;obtain⟨j,hj,hj2⟩:=h;rw[fE]at hj;simp only[aA,decide_eq_true_eq]at hj2;have hp:pre[j]? = some pre[j]:=by simp[hj]
    rw[hp]at hj2;exact hc j _ hp (ih j (by omega) hj) i (jW.1 hj2.2)
 exact fun i h=>key _ i (bK _) h
theorem aRp{L0:Nat→Bool}(hlt:∀i p,pre[i]? = some p→∀e∈anyPre p,e<i)(hL:X9 L0 pre o=true)(hg:uO pre=true) :
 ∀(fuel:Nat) (l:Array Bool),l.size=pre.size→Cl pre l→(∀i,i<pre.size→L0 i=true→l.getD i false=true)→∀(a:Act) (w:World),wpAny P .any pre (qS P pre o Q) fuel l a w→wpAny P .any (pre.push o) Q (fuel+1) (l.push false) a w:=by
 have hn:(pre.push o)[pre.size]? = some o:=by simp
 have hdl:∀e∈anyPre o,e<pre.size:=by
  simp only[X9,aA,bF,decide_eq_true_eq]at hL;exact hL.1
 have fin:∀(fuel:Nat) (l:Array Bool),l.size=pre.size→(∀i,i<pre.size→l.getD i false=true)→∀(a:Act) (w:World),qS P pre o Q .normal a w→wpAny P .any (pre.push o) Q (fuel+1) (l.push false) a w:=by
  intro fuel l hl hall a w hB;have hmem:pre.size∈Region.ready .any (pre.push o) (l.push false):=by
   rw[mem_ready];refine⟨by rw[← hl];exact M6,o,hn,fun d hd hb=>?_⟩;have:=hdl d.on (iJ.2 ⟨d,hd,hb,rfl⟩);rw[kC (by omega)];exact hall _ this
  refine⟨fun hr=>(by rw[hr]at hmem;cases hmem),fun i hi=>?_⟩;have hlt2:i<pre.size+1:=by
   obtain⟨_,p,hp,_⟩:=mem_ready.1 hi;have:=(aY.1 hp).1;simpa using this
  by_cases hin:i<pre.size
  ·have h1:=(mem_ready.1 hi).1;rw[kC (by omega)]at h1;have h2:=hall i hin;have hli:i<l.size:=by omega
   simp[Array.getD,hli]at h1 h2;rw[h1]at h2;cases h2
  ·obtain rfl:i=pre.size:=by omega
   refine wpOp_mono (fun a w q=>aOp (fun k hk=>?_) q fuel) hB;rw[oA]at hk;by_cases hk2:k<pre.size
   ·have h2:=hall k hk2;have hkl:k<l.size:=by omega
    have:((l.push false).setIfInBounds pre.size true).getD k true=l.getD k false:=by
     rw[getD_set_ne true (by omega),kC hkl];simp[Array.getD,hkl]
    rw[this];exact h2
   ·obtain rfl:k=pre.size:=by omega
    rw[← hl];simp[Array.getD]
 intro fuel;induction fuel with
 |zero=>
  intro l hl hc h0 a w h;exact fin 0 l hl (M7 hlt hl h.1) a w h.2
 |succ fuel ih=>
  intro l hl hc h0 a w h;by_cases hr:Region.ready .any pre l=[]
  ·exact fin (fuel+1) l hl (M7 hlt hl hr) a w (h.1 hr)
  ·refine⟨fun hr'=>?_,fun i hi=>?_⟩
   ·obtain⟨k,hk⟩:=S3 _ hr;have hkl:k<pre.size:=by obtain⟨_,p,hp,_⟩:=mem_ready.1 hk;exact(aY.1 hp).1
    have:=(vP (o:=o) hlt hl hkl).2 hk;rw[hr']at this;cases this
   ·have hlt2:i<pre.size+1:=by
     obtain⟨_,p,hp,_⟩:=mem_ready.1 hi;have:=(aY.1 hp).1;simpa using this
    by_cases hin:i<pre.size
    ·have hi':=(vP hlt hl hin).1 hi;have h2:=h.2 i hi';have hp:pre[i]? = some pre[i]:=by simp[hin]
     have hli:i<l.size:=by omega
     have hset:(l.push false).setIfInBounds i true=(l.setIfInBounds i true).push false:=by
      apply U7
      ·simp
      ·intro k h1 h2;have q1:=cL (xs:=l.push false) (i:=i) (j:=k) (a:=true);rw[bW h1]at q1;have q2:=eN (xs:=l.setIfInBounds i true) (x:=false) (i:=k);rw[bW h2]at q2;apply fR;rw[q1,q2,cL,eN];simp only[oA,mD];by_cases hik:i=k
       ·subst hik;rw[if_pos rfl,if_pos (by omega),if_neg (by omega),if_pos rfl,if_pos hli]
       ·rw[if_neg hik];by_cases hkl:k=l.size
        ·rw[if_pos hkl,if_pos hkl]
        ·rw[if_neg hkl,if_neg hkl,if_neg hik]
     have K:∀a w,wpAny P .any pre (qS P pre o Q) fuel (l.setIfInBounds i true) a w→wpAny P .any (pre.push o) Q (fuel+1) ((l.push false).setIfInBounds i true) a w:=fun a w q=>by
      rw[hset];refine ih _ (by simp[hl]) ?_ (fun k hk hk0=>getD_set_true (h0 k hk hk0)) a w q;intro k p hp' hk e he;by_cases hik:i=k
      ·subst hik;obtain⟨_,p2,hp2,hall⟩:=mem_ready.1 hi';rw[hp']at hp2;cases hp2;obtain⟨d,hd1,hd2,rfl⟩:=iJ.1 he;have:=hlt _ _ hp' d.on he;rw[getD_set_ne false (by omega)];exact hall d hd1 hd2
      ·rw[getD_set_ne false hik]at hk;have:=hc k p hp' hk e he;by_cases hie:i=e
       ·subst hie;simp[Array.getD,hli]
       ·rw[getD_set_ne false hie];exact this
     unfold wpOp at h2 ⊢;rw[sD hin,hp];rw[hp]at h2;dsimp only at h2 ⊢;rw[xA hg hp];by_cases hw:Region.wanted pre[i] (yielded pre a.tmps)=true
     ·rw[if_pos hw]at h2 ⊢;have up:LetsOut (qS P pre o Q)→LetsOut Q:=fun⟨a,w,q⟩=>⟨a,w,q⟩;rcases h2 with h2|⟨h2,h3⟩
      ·exact .inl (lF (fun x a w hx q=>by cases x<;>first|exact absurd rfl hx|exact q) up (wN K h2))
      ·exact .inr ⟨h2,up h3⟩
     ·rw[if_neg hw]at h2 ⊢;exact K _ _ h2
    ·obtain rfl:i=pre.size:=by omega
     exfalso;apply hr;have hall:=aWk hL hc h0 (fun e he=>by
      obtain⟨_,p,hp,hd⟩:=mem_ready.1 hi;rw[hn]at hp;cases hp;obtain⟨d,hd1,hd2,rfl⟩:=iJ.1 he;have:=hd d hd1 hd2;rwa[kC (by have:=hdl _ he;omega)]at this)
     rw[iH];intro k hk;obtain⟨h1,p,hp,_⟩:=mem_ready.1 hk;have hkl:=(aY.1 hp).1;have h2:=hall k hkl;have hkl':k<l.size:=by omega
     simp[Array.getD,hkl']at h1 h2;rw[h1]at h2;cases h2
def aAe(L0:Nat→Bool)(pre:Array Oper):List Oper→Bool
 | []=>true
 |o::l=>(X9 L0 pre o&&uO pre)&&((match o.guard with|some (j,_)=>decide (j<pre.size)|Option.none=>true)&&aAe L0 (pre.push o) l)
theorem aGu{L0:Nat→Bool}:∀(l:List Oper) (pre:Array Oper) (l0:Array Bool),l0.size=pre.size→Cl pre l0→(∀i,L0 i=true→l0.getD i false=true)→(∀i p,pre[i]? = some p→∀e∈anyPre p,e<i)→aAe L0 pre l=true→∀(Q:Exit→Act→World→Prop) (a:Act) (w:World) (fuel:Nat),
 wpAny P .any pre (sT P (pre++l.toArray) l Q) fuel l0 a w→wpAny P .any (pre++l.toArray) Q (fuel+l.length) (l0++Array.replicate l.length false) a w
 | [],pre,l0,hs,hcl,h0,hlt,ht,Q,a,w,fuel,h=>by
   have e:pre++([]:List Oper).toArray=pre:=by simp
   have e2:l0++Array.replicate ([]:List Oper).length false=l0:=by simp
   rw[e2];rw[e]at h ⊢;exact lY (fun x a w q=>by cases x<;>exact q) _ _ _ _ h
 |o :: l,pre,l0,hs,hcl,h0,hlt,ht,Q,a,w,fuel,h=>by
  simp only[aAe,aA]at ht;obtain⟨⟨hL,hg⟩,hgo,ht⟩:=ht;have e:pre++(o::l).toArray=pre.push o++l.toArray:=by apply oS;simp
  have hdl:∀e∈anyPre o,e<pre.size:=by
   have hL:=hL;simp only[X9,aA,bF,decide_eq_true_eq]at hL;exact hL.1
  have hlt1:∀i p,(pre.push o)[i]? = some p→∀e∈anyPre p,e<i:=by
   intro i p hp e he;rw[eN]at hp;split at hp
   ·rename_i hi;cases hp;rw[hi];exact hdl e he
   ·exact hlt i p hp e he
  rw[e]at h ⊢;have e1:(pre.push o).size=pre.size+1:=by simp
  have e3:l0++Array.replicate (o::l).length false=l0.push false++Array.replicate l.length false:=by
   apply oS;simp[gV]
  have hin:∀i,l0.getD i false=true→i<l0.size:=by
   intro i hi;rcases lK i l0.size with h'|h'
   ·exact h'
   ·simp[Array.getD,Nat.not_lt.2 h']at hi
  rw[aQ,show fuel+(l.length+1)=fuel+1+l.length by omega];rw[show l.length+1=(o::l).length from rfl,e3];refine aGu l (pre.push o) (l0.push false) (by simp[hs]) ?_ ?_ hlt1 ht Q a w (fuel+1) ?_
  ·intro i p hp hi e he;have hil:i<l0.size:=by
    rcases lK i l0.size with h'|h'
    ·exact h'
    ·exfalso;rcases Nat.eq_or_lt_of_le h' with h2|h2
     ·rw[← h2,M6]at hi;cases hi
     ·simp[Array.getD,show ¬i<l0.size+1 by omega]at hi
   rw[kC hil]at hi;rw[sD (by omega)]at hp;have:=hcl i p hp hi e he;rw[kC (hin e this)];exact this
  ·intro i hi;have:=h0 i hi;rw[kC (hin i this)];exact this
  refine aRp hlt hL hg _ _ hs hcl (fun i _ hi=>h0 i hi) a w (lY ?_ _ _ _ _ h)
  ·intro x a w q;cases x with
   |normal=>
    simp only[sT,qS]at q ⊢;have hn:(pre.push o)[pre.size]? = some o:=by simp
    unfold wpOp;rw[hn];dsimp only;simp only[wpList]at q;have hw:Region.wanted o (yielded (pre.push o++l.toArray) a.tmps)=Region.wanted o (yielded (pre.push o) a.tmps):=A3 (fun j b hj=>by
     rw[hj]at hgo;simp only[decide_eq_true_eq]at hgo;exact⟨by rw[e1];omega,dU (by rw[e1];omega)⟩) _
    rw[hw]at q;split
    ·rename_i hw2;rw[if_pos hw2]at q;have up:LetsOut Q→LetsOut (sT P (pre.push o++l.toArray) l Q):=fun⟨a,w,q⟩=>⟨a,w,q⟩;rcases q with q|⟨q,q3⟩
     ·exact .inl (lF (fun x a w hx q=>by cases x<;>first|exact absurd rfl hx|exact q) up q)
     ·exact .inr ⟨q,up q3⟩
    ·rename_i hw2;rw[if_neg hw2]at q;exact q
   |_=>exact q
end
section
variable {P:Program} {G:Md} {N:DR} {rx:RX}
def bJx(rx:RX)(k i0:Nat)(ops:Array Oper):Bool:=
 uQ rx (ops.toList.take k).toArray&&(aAe (fun i=>i == i0) (ops.toList.take k).toArray (ops.toList.drop k)&&(aYh (ops.toList.take k).toArray&&(decide (i0<(ops.toList.take k).toArray.size) &&
  (Region.noSelect ops&&Region.free .any ops (Array.replicate ops.size false) i0))))
theorem aZu(hm:P.follows .mixedOrders=true){id:Nat}{ops:Array Oper}(k i0 d j0:Nat){al al2:List gA}(o0:Oper){Q:Exit→List AV→List AObj→Prop}{env:List AV}{h:List AObj}
 (hB:bJx rx k i0 ops=true) (ho0:(ops.toList.take k).toArray[i0]? = some o0) (hmd:o0.dst=some d) (hmo:o0.op=.move (.tmp j0)) (hmg:o0.guard=none) (hma:anyPre o0=[])
 (hl:bY rx (ops.toList.take k).toArray (fT (ops.toList.take k).toArray)=some al) (ho:bY .off ops (ops.toList.drop k)=some al2)
 (hpan:∀v env env' h,G.pan v env h→G.pan v env' h)
 (e:dN P G (some N) al (fun env h=>dN P G Option.none al2 (Q .normal) env h) env h):AW P G (.region id ops true) Q env h:=by
 simp only[bJx,aA]at hB;obtain⟨b1,b2,b3,b4,b5,b6⟩:=hB;rw[decide_eq_true_eq]at b4;intro X w a g r;have hops:ops=(ops.toList.take k).toArray++(ops.toList.drop k).toArray:=by
  apply oS;rw[D6];simp
 generalize hpre:(ops.toList.take k).toArray=pre at *
 generalize htl:ops.toList.drop k=l at *
 have hn:ops.size=(pre.size-1+l.length)+1:=by rw[hops,kP];simp;omega
 have hget:ops[i0]? = some o0:=by rw[hops,dU b4];exact ho0
 refine wp_region_any hm ?_;rw[hn];have hput:∀(Y:Ctx) (w':World) (h':List AObj) (env':List AV) (a':Act) (v:Value),EnvOK G.ds Y w' h' env' (a'.put o0.dst v)→EnvOK G.ds Y w' h' (env'.set d .u) a':=by
  intro Y w' h' env' a' v r';have hsz:(a'.put o0.dst v).tmps.size=a'.tmps.size:=by rw[hmd];simp[Act.put]
  refine⟨?_,?_,?_⟩
  ·have:=r'.defers;rw[hmd]at this;exact this
  ·rw[List.length_set,r'.size,hsz]
  ·intro j x v' hx hv;by_cases hj:d=j
   ·subst hj;rw[jJ (by have:=bP hx;rwa[List.length_set]at this)]at hx;cases hx;exact .u _
   ·rw[dW hj]at hx;refine r'.rel j x v' hx ?_;rw[hmd];simp only[Act.put];rw[Array.getElem?_setIfInBounds_ne hj];exact hv
 have hy:Yields P ops o0 (a.eval (.tmp j0)) a:=.inl ⟨by simp[Region.wanted,hmg],fun w=>by simp[execOp,hmo]⟩;have hmem:∀(full:Array Oper),full[i0]? = some o0→i0<full.size→i0∈Region.ready .any full (Array.replicate full.size false):=by
  intro full hf hlt;rw[mem_ready];refine⟨by simp[Array.getD,hlt],o0,hf,fun dd hdd hb=>?_⟩;have:dd.on∈anyPre o0:=iJ.2 ⟨dd,hdd,hb,rfl⟩;rw[hma]at this;cases this
 refine wpAny_take (oi:=o0) (v:=a.eval (.tmp j0)) hget b5 (by rw[← hn];exact b6) ?_ ?_ hy ?_
 ·have:=hmem ops hget (by rw[hn];omega);rw[hn]at this;simpa using this
 ·rintro ch a' w' ⟨env',h',X',⟨v,hv,hp⟩,g',r',t'⟩;exact⟨env'.set d .u,h',X',⟨v,hv,hpan _ _ _ _ hp⟩,g',hput _ _ _ _ _ _ r',t'⟩
 ·have hset:(Array.replicate (pre.size-1+l.length+1) false).setIfInBounds i0 true=(Array.replicate pre.size false).setIfInBounds i0 true++Array.replicate l.length false:=by
   apply U7
   ·simp;omega
   ·intro q h1 h2;have h3:q<pre.size+l.length:=by simp at h1;omega
    have q1:=cL (xs:=Array.replicate (pre.size-1+l.length+1) false) (i:=i0) (j:=q) (a:=true);rw[bW h1]at q1;have q2:=aKq (xs:=(Array.replicate pre.size false).setIfInBounds i0 true) (ys:=Array.replicate l.length false) (i:=q);rw[bW h2]at q2;apply fR;rw[q1,q2];simp only[aRy,mD,Array.getElem?_replicate,cL];by_cases hq:i0=q
    ·subst hq;rw[if_pos rfl,if_pos (show i0<pre.size-1+l.length+1 by omega),if_pos b4,if_pos rfl,if_pos b4]
    ·rw[if_neg hq,if_pos (show q<pre.size-1+l.length+1 by omega)];by_cases hq2:q<pre.size
     ·rw[if_pos hq2,if_neg hq,if_pos hq2]
     ·rw[if_neg hq2,if_pos (show q-pre.size<l.length by omega)]
  rw[hset];have hops2:=hops;rw[hops]at ho ⊢;refine aGu (L0:=fun i=>i == i0) l pre _ (by simp) ?_ ?_ (C4 b3) b2 _ _ {w with drawn:=w.drawn+1} (pre.size-1) ?_
  ·intro i p hp hi e he;have hii:i0=i:=by
    apply Classical.byContradiction;intro hne;rw[getD_set_ne false hne]at hi;have hlt:=(aY.1 hp).1;simp[Array.getD,hlt]at hi
   subst hii;rw[ho0]at hp;cases hp;rw[hma]at he;cases he
  ·intro i hi;have hii:i=i0:=by simpa using hi
   subst hii;simp[Array.getD,b4]
  ·have D1:=zM (Q:=sT P (pre++l.toArray) l (fun e a' w'=>mI G X w h (bOb G Q e) a' w')) b1 hl e g r (by
    rintro a' w' ⟨env',h',X',k1,k2,k3,k4⟩;exact lX (ops:=pre++l.toArray) l al2 ho env' h' X' w' a' k1 k2 k3 (fun a2 w2 ⟨env2,h2,X2,m1,m2,m3,m4⟩=>⟨env2,h2,X2,m1,m2,m3,k4.trans m4⟩)
     (fun _ v a2 w2 ⟨env2,h2,X2,m1,m2,m3,m4⟩=>⟨env2,h2,X2,⟨v,rfl,m1⟩,m2,m3,k4.trans m4⟩))
   have hps:pre.size=(pre.size-1)+1:=by omega
   have hm0:=hmem pre ho0 b4;rw[hps]at D1 hm0;have D2:=D1.2 i0 hm0;unfold wpOp at D2;rw[ho0]at D2;dsimp only at D2;rw[if_pos (by simp[Region.wanted,hmg])]at D2;have hx:(execOp a.eval o0).run P {w with drawn:=w.drawn+1}=.ok (.value (a.eval (.tmp j0))) {w with drawn:=w.drawn+1}:=by simp[execOp,hmo]
   rcases D2 with D2|⟨D2,_⟩
   ·unfold Oper.wp at D2;rw[hx,Oper.upon_value]at D2;rw[← hps]at D2;exact D2
   ·exfalso;unfold Oper.asks at D2;have:=D2.1;simp[execOp,hmo]at this;exact absurd (show noRoomEvent∈(#[]:Array _)from this) (by simp)
theorem bHj(hm:P.follows .mixedOrders=true){id:Nat}{ops:Array Oper}(k:Nat){al al2:List gA}{Q:Exit→List AV→List AObj→Prop}{env:List AV}{h:List AObj}
 (hB:(uQ rx (ops.toList.take k).toArray&&D8 (ops.toList.take k).toArray (ops.toList.drop k))=true)
 (hl:bY rx (ops.toList.take k).toArray (fT (ops.toList.take k).toArray)=some al) (ho:bY .off ops (ops.toList.drop k)=some al2)
 (e:dN P G (some N) al (fun env h=>dN P G Option.none al2 (Q .normal) env h) env h):AW P G (.region id ops true) Q env h:=by
 rw[aA]at hB;have hops:ops=(ops.toList.take k).toArray++(ops.toList.drop k).toArray:=by
  apply oS;rw[D6];simp
 intro X w a g r;generalize (ops.toList.take k).toArray=pre at *
 generalize ops.toList.drop k=l at *
 subst hops;exact aFt hm hB.1 hB.2 hl ho e g r (fun a' w' k=>k) (fun v a' w' ⟨env2,h2,X2,m1,m2,m3,m4⟩=>⟨env2,h2,X2,⟨v,rfl,m1⟩,m2,m3,m4⟩)
end
end Go.Vo
