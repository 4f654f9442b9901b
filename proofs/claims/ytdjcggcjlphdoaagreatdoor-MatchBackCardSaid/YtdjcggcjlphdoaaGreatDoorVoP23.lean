/-
  The abstract layer, part Rw: operations of a region that are taken as they are, others before and behind them. It speaks of any program; no condition.
-/
import Derived.Test.YtdjcggcjlphdoaaGreatDoorVoP18
import Derived.Lib.SliceRun
import Derived.Lib.AppendZerosOnto
import Derived.Laws.Externs
set_option linter.unusedVariables false
set_option linter.unusedSimpArgs false
namespace Go.Vo
section
variable {P:Program} {G:Md} {ops:Array Oper}
theorem U9{Q:Exit→Act→World→Prop}{l2:List Oper}:∀{l1:List Oper} {a:Act} {w:World},wpList P ops (sT P ops l2 Q) l1 a w→wpList P ops Q (l1++l2) a w
 | [],a,w,h=>h
 |o :: l1,a,w,h=>by
  rw[aH];unfold wpList at h ⊢;have up:LetsOut (sT P ops l2 Q)→LetsOut Q:=fun⟨a,w,q⟩=>⟨a,w,q⟩;split
  ·rename_i hw;rw[if_pos hw]at h;rcases h with h|⟨h,h3⟩
   ·exact .inl (lF (fun x a w hx q=>by cases x<;>first|exact absurd rfl hx|exact q) up (wN (fun a w q=>U9 q) h))
   ·exact .inr ⟨h,up h3⟩
  ·rename_i hw;rw[if_neg hw]at h;exact U9 h
theorem aHl{Q Q':Exit→Act→World→Prop}(hQ:∀e a w,Q e a w→Q' e a w):∀{l:List Oper} {a:Act} {w:World},wpList P ops Q l a w→wpList P ops Q' l a w
 | [],a,w,h=>hQ _ _ _ h
 |o :: l,a,w,h=>by
  unfold wpList at h ⊢;have up:LetsOut Q→LetsOut Q':=fun⟨a,w,q⟩=>⟨a,w,hQ _ _ _ q⟩;split
  ·rename_i hw;rw[if_pos hw]at h;rcases h with h|⟨h,h3⟩
   ·exact .inl (lF (fun x a w hx q=>hQ _ _ _ q) up (wN (fun a w q=>aHl hQ q) h))
   ·exact .inr ⟨h,up h3⟩
  ·rename_i hw;rw[if_neg hw]at h;exact aHl hQ h
theorem tT{Q:Exit→Act→World→Prop}{o:Oper}{l:List Oper}{a:Act}{w w':World}{v:Value}(hg:o.guard=none)(hr:(execOp a.eval o).run P w=.ok (.value v) w')(h:wpList P ops Q l (a.put o.dst v) w'):wpList P ops Q (o::l) a w:=by
 refine wpList_plain hg fun K hK=>?_;unfold Oper.wp;rw[hr];exact hK _ _ h
theorem bHk{Q:Exit→List AV→List AObj→Prop}{env:List AV}{h:List AObj}{id:Nat}{l1 l2 l3:List Oper}{al1 al3:List gA}(he:ops.toList=l1++(l2++l3))(h1:bY .off ops l1=some al1)(h3:bY .off ops l3=some al3)
 (H:dN P G none al1 (fun env' h'=>∀(X:Ctx) (w:World) (a:Act),GH G X w h'→EnvOK G.ds X w h' env' a →
  wpList P ops (fun e a' w'=>e=.normal∧mI G X w h' (dN P G none al3 (Q .normal)) a' w') l2 a w) env h):AW P G (.region id ops false) Q env h:=by
 intro X w a g r;refine wp_region_list ?_;rw[he];have hp:∀{X1:Ctx} {w1:World} {h1:List AObj},Tr X w h X1 w1 h1→∀v a' w',mI G X1 w1 h1 (G.pan v) a' w'→mI G X w h (bOb G Q (.panic [{v:=v,recovered:=false}])) a' w':=
  fun t v a' w' ⟨env2,h2,X2,m1,m2,m3,m4⟩=>⟨env2,h2,X2,⟨v,rfl,m1⟩,m2,m3,t.trans m4⟩
 refine U9 (lX (G:=G) l1 al1 h1 env h X w a H g r ?_ (fun _ v a' w' k=>hp (.refl _ _ _) v a' w' k));rintro a1 w1 ⟨env1,h1',X1,k1,g1,r1,t1⟩;refine U9 (aHl ?_ (k1 X1 w1 a1 g1 r1));rintro e a2 w2 ⟨rfl,env2,h2,X2,k2,g2,r2,t2⟩;refine lX (G:=G) l3 al3 h3 env2 h2 X2 w2 a2 k2 g2 r2 ?_ (fun _ v a' w' k=>hp (t1.trans t2) v a' w' k);rintro a3 w3 ⟨env3,h3',X3,k3,g3,r3,t3⟩;exact⟨env3,h3',X3,k3,g3,r3,t1.trans (t2.trans t3)⟩
theorem pN{Q:Exit→List AV→List AObj→Prop}{env:List AV}{h:List AObj}{id:Nat}(k m:Nat){al1 al3:List gA}(h1:bY .off ops (ops.toList.take k)=some al1)(h3:bY .off ops (ops.toList.drop (k+m))=some al3)
 (H:dN P G none al1 (fun env' h'=>∀(X:Ctx) (w:World) (a:Act),GH G X w h'→EnvOK G.ds X w h' env' a →
  wpList P ops (fun e a' w'=>e=.normal∧mI G X w h' (dN P G none al3 (Q .normal)) a' w') ((ops.toList.drop k).take m) a w) env h):AW P G (.region id ops false) Q env h:=
 bHk (by rw[← pV,cI,cI]) h1 h3 H
theorem bWj{a:Act}{j:Nat}{v:Value}(h:j<a.tmps.size):(a.put (some j) v).eval (.tmp j)=v:=by simp[Act.put,Act.eval,h]
section
variable {X:Ctx} {w:World} {h:List AObj} {env:List AV} {a:Act} {D:List Deferred}
theorem EnvOK.at{j:Nat}{x:AV}(r:EnvOK D X w h env a)(hj:env[j]? = some x):RV X w h x (a.eval (.tmp j)):=by
 have hl:j<a.tmps.size:=r.size▸bP hj;have:=r.rel j x a.tmps[j] hj (by simp[hl]);simpa[Act.eval,hl]using this
theorem EnvOK.tell{j:Nat}{x:AV}(r:EnvOK D X w h env a)(hx:j<a.tmps.size→RV X w h x (a.eval (.tmp j))):EnvOK D X w h (env.set j x) a:=by
 refine⟨r.defers,by rw[List.length_set];exact r.size,fun k y v hy hv=>?_⟩;by_cases hk:j=k
 ·subst hk;have hl:j<a.tmps.size:=(aY.1 hv).1;have hle:j<env.length:=r.size▸hl;rw[jJ hle]at hy;cases hy;have e:a.eval (.tmp j)=v:=by simp[Act.eval,hv]
  exact e▸hx hl
 ·rw[dW hk]at hy;exact r.rel k y v hy hv
end
theorem aZg{X:Ctx}{w:World}{h:List AObj}{env:List AV}{a:Act}{o1 o2:Oper}{T el:TypeId}{j j1 j2 id n sz:Nat}{cells:List AV}{K:List AV→List AObj→Prop}
 (ho1:o1.op=.move (.tmp j)) (hd1:o1.dst=some j1) (hg1:o1.guard=none) (ho2:o2.op=.call ⟨.builtin .cap,#[.tmp j1],#[T]⟩) (hd2:o2.dst=some j2) (hg2:o2.guard=none) (hT:P.underlying T=some (.slice el))
 (hj:env[j]? = some (.hs id 0 n false)) (hid:h[id]? = some (.arr false sz cells)) (hn:cells.length=n*sz) (h0:0<n) (hz:0<sz) (hj1:j1<env.length) (n1:j1≠j) (n2:j2≠j)
 (A:K (((env.set j (.hs id 0 n true)).set j1 .u).set j2 (.i .i64 n)) h)
 (B:∀c:Nat,n<c→K (((env.set j (.hs h.length 0 n false)).set j1 .u).set j2 (.i .i64 c)) (h.set id .dead++[.arr false sz (cells++List.replicate ((c-n)*sz) .u)]))
 (g:GH G X w h) (r:EnvOK G.ds X w h env a):wpList P ops (fun e a' w'=>e=.normal∧mI G X w h K a' w') [o1,o2] a w:=by
 have r0:=r.at hj;have hl1:j1<a.tmps.size:=r.size▸hj1;generalize hv:a.eval (.tmp j)=v at r0;cases r0 with
 |dead hr hd _=>simp only[AV.refs,aB]at hr;subst hr;rw[hid]at hd;cases hd
 |hs0=>omega
 | @hs _ _ _ _ fz s cells' b o cap T' N hid' hι hsh hle hnc hN ht hf=>
 rw[hid]at hid';cases hid';have hcs:=hf rfl;have ok:=g.objs _ _ hid;cases ok with
 |absent h0=>rw[h0]at hι;cases hι
 | @arr _ _ _ b' o' cur Tb fr i0 hb hf1 hf2 hlen h1 hr hc1=>
 rw[i0]at hι;simp only[aB,bH]at hι;obtain⟨rfl,rfl⟩:=hι;obtain⟨hF,rfl⟩:=hf2 rfl;have hNs:N=cur.size:=by simp[World.shape?,hb]at hsh;exact hsh.2.symm
 subst hNs;refine tT (v:=.slice (some ⟨b',o'+0,none⟩) n cap) (w':=w) hg1 (by simp[execOp,ho1,hv]) ?_;refine tT (v:=.int .i64 cap) (w':=w) hg2 ?_ ?_
 ·rw[hd1];simp[execOp,ho2,resolve,invoke,builtin,Builtin.cap_,run_underlying hT,bWj hl1,goInt]
 rw[hd1,hd2];show _∧_;refine⟨rfl,?_⟩;have fin:∀{X1:Ctx} {h1:List AObj} {x:AV},GH G X1 w h1→Tr X w h X1 w h1→RV X1 w h1 x (.slice (some ⟨b',o'+0,none⟩) n cap)→EnvOK G.ds X1 w h1 (((env.set j x).set j1 .u).set j2 (.i .i64 cap)) ((a.put (some j1) (.slice (some ⟨b',o'+0,none⟩) n cap)).put (some j2) (.int .i64 cap)):=by
  intro X1 h1 x g1 t1 rx;exact(((r.mono t1.ext).tell (fun _=>hv▸rx)).put (some j1) (.u _)).put (some j2) (.i _ _)
 rcases lK n cap with hlt|hge
 ·have hc1':cap=cap:=rfl;have hmul:n*sz+(cap-n)*sz=cap*sz:=by rw[← Nat.add_mul];congr 1;omega
  have hlc:(cells++List.replicate ((cap-n)*sz) AV.u).length=cap*sz:=by rw[List.length_append,List.length_replicate,hn,hmul]
  obtain⟨g',t⟩:=aBa (ob':=.arr false sz (cells++List.replicate ((cap-n)*sz) .u)) (bo:=some (b',o')) (w':=w) g hid (by simp) (bK _) rfl rfl rfl (fun _ _ _=>rfl) (fun b o hb=>by rw[i0]at hb;cases hb;exact hF) (fun _ _ h=>h)
   (fun b o e=>by cases e;exact .inr ⟨_,i0⟩) (fun ee=>.arr (Ctx.upd_same _ _ _) hb (fun f=>by cases f) (fun _=>⟨hF,rfl⟩) (by rw[hlc];omega) (fun j v _ hv=>hc1 _ v hv) (fun j x v hx hv=>by
    by_cases hj':j<cells.length
    ·rw[aG hj']at hx;exact(hr j x v hx hv).mono ee
    ·rw[aR (by omega),mT]at hx;split at hx
     ·cases hx;exact .u _
     ·cases hx) hc1)
  refine⟨_,_,_,B cap hlt,g',fin g' t ?_,t⟩;refine .hs (fz:=false) (sz:=sz) (cells:=cells++List.replicate ((cap-n)*sz) .u) ?_ (Ctx.upd_same _ _ _) hsh (by rw[hlc];have:=cN sz hnc;omega) hnc (by omega) (by simp) (fun _=>by rw[hlc];omega);rw[aR (by simp)];simp
 ·obtain rfl:cap=n:=by omega
  refine⟨_,_,X,A,g,fin g (.refl _ _ _) ?_,.refl _ _ _⟩;exact .hs hid i0 hsh (by omega) hnc hN (fun _=>rfl) (by simp)
theorem K9{T el:TypeId}{sz n cap k:Nat}{a:Addr}(w:World)(hT:P.underlying T=some (.slice el))(hs:lP P el=some sz)(hk:k≤cap) :
 (Instr.sliceAt T (.slice (some a) n cap) none (some (.int .i64 k)) none).run P w=.ok (.slice (some a) k cap) w:=by
 have hb:(Instr.sliceBound (.int .i64 (k:Nat)) cap BoundsCode.sliceAcap).run P w=.ok k w:=by
  have:=lQ (P:=P) (k:=.i64) (i:=(k:Nat)) (y:=cap) (code:=BoundsCode.sliceAcap) (by omega) (by omega) w;simpa using this
 simp[Instr.sliceAt,Instr.slice,run_underlying hT,Instr.sliceBounds,hb,gL hs,Addr.add_lit];exact fun _=>by cases a;simp[Addr.add]
theorem bBs{X:Ctx}{w:World}{h:List AObj}{env:List AV}{a:Act}{o:Oper}{T el:TypeId}{j i id n m sz:Nat}{cells:List AV}{K:List AV→List AObj→Prop}
 (ho:o.op=.slice T (.tmp j) none (some (.tmp i)) none) (hg:o.guard=none) (hT:P.underlying T=some (.slice el)) (hs:lP P el=some sz) (hj:env[j]? = some (.hs id 0 n false)) (hi:env[i]? = some (.i .i64 m)) (hid:h[id]? = some (.arr false sz cells))
 (h0:0<n) (hz:0<sz) (hm:m*sz≤cells.length) (k:K (iV env o.dst (.hs id 0 m false)) h)
 (g:GH G X w h) (r:EnvOK G.ds X w h env a):wpList P ops (fun e a' w'=>e=.normal∧mI G X w h K a' w') [o] a w:=by
 have r0:=r.at hj;have r1:=sW (r.at hi);generalize hv:a.eval (.tmp j)=v at r0;cases r0 with
 |dead hr hd _=>simp only[AV.refs,aB]at hr;subst hr;rw[hid]at hd;cases hd
 |hs0=>omega
 | @hs _ _ _ _ fz s cells' b o' cap T' N hid' hι hsh hle hnc hN ht hf=>
 rw[hid]at hid';cases hid';have hcs:=hf rfl;have hmc:m≤cap:=Nat.le_of_mul_le_mul_right (by omega:m*sz≤cap*sz) hz;refine tT (v:=.slice (some ⟨b,o'+0,none⟩) m cap) (w':=w) hg ?_ ?_
 ·have:=K9 (P:=P) (n:=n) (a:=⟨b,o'+0,none⟩) w hT hs hmc;simp[execOp,ho,hv,r1,this,-Nat.add_zero]
 ·refine⟨rfl,_,h,X,k,g,r.put o.dst ?_,.refl _ _ _⟩;exact .hs hid hι hsh (by omega) hmc hN (by simp) (fun _=>hcs)
theorem aAh(w:World)(tS tR e:TypeId)(ht:P.underlying tS=some (.slice e))(size:Nat)(hz:∀w,(Go.sizeOf e).run P w=.ok size w)
 (a b:Addr) (la ca lb cb:Nat) (hne:a.block≠b.block) (tA tB:TypeId) (kA kB:Nat)
 (hsa:w.shape? a.block=some (tA,kA)) (hsb:w.shape? b.block=some (tB,kB)) (hkA:kA≠0)
 (hfb:w.frozen? b=false) (hfe:w.frozen? {block:=b.block,off:=kB}=false) :
 (Extern.SlicesOverlaps.overlaps #[tS,tS] #[tR] #[.slice (some a) la ca,.slice (some b) lb cb]).run P w=.ok (.bool false) w:=by
 have hnb:(a.block != b.block)=true:=by simpa using hne
 have hnb':(a.block == b.block)=false:=by simpa using hne
 change Sem.run P (α:=Value) (do
  let some t:=(#[tS,tS]:Array TypeId)[0]?|stuck "slices.overlaps: no parameter types"
  let .slice elem ← underlying t|stuck "slices.overlaps: slice type expected"
  let size ← sizeOf elem
  match (some a:Option Addr),(some b:Option Addr)with
  |some a,some b=>
   if la=0∨lb=0∨size=0 then pure (Value.bool false)
   else if a.block != b.block&&(← frozen a)&&(← frozen b)then unsupported .addressObserved
   else do
    if a.block != b.block then do
     noView a;noView b
     if ← mayBeOne a b then return Value.bool ((← choose (.extern "sameAddr.stringBytes" 2)) == 1)
    pure (Value.bool (a.block == b.block&&a.off<b.off+lb*size&&b.off<a.off+la*size))
  |_,_=>pure (Value.bool false)) w=_
 by_cases h0:la=0∨lb=0∨size=0
 ·simp[run_underlying ht,hz,h0]
 ·cases kA with
  |zero=>exact absurd rfl hkA
  |succ kA=>
   cases hfa:w.frozen? a<;>simp[run_underlying ht,hz,h0,hnb,hnb',Go.frozen,noView,viewAt,mayBeOne,stringish,Go.shape,Sem.run,hsa,hsb,hfa,hfb,hfe]
theorem aQc{X:Ctx}{w:World}{h:List AObj}{env:List AV}{a:Act}{o:Oper}{f:FuncId}{tys:Array TypeId}{tS tR el:TypeId}{i j id off n m sz s0:Nat}{cells c0:List AV}{K:List AV→List AObj→Prop}
 (ho:o.op=.call ⟨.value (.func f),#[.tmp j,.tmp i],tys⟩) (hg:o.guard=none)
 (hx:∀(x y:Value) (w:World),(Extern.SlicesOverlaps.overlaps #[tS,tS] #[tR] #[x,y]).run P w=.ok (.bool false) w→(callFunc f #[x,y]).run P w=.ok (.value (.bool false)) w)
 (hT:P.underlying tS=some (.slice el)) (hs:∀w,(Go.sizeOf el).run P w=.ok s0 w) (hj:env[j]? = some (.sl c0 m)) (hc:0<c0.length) (hi:env[i]? = some (.hs id off n false)) (hid:h[id]? = some (.arr false sz cells)) (h0:0<n)
 (k:K (iV env o.dst (.b false)) h)
 (g:GH G X w h) (r:EnvOK G.ds X w h env a):wpList P ops (fun e a' w'=>e=.normal∧mI G X w h K a' w') [o] a w:=by
 have r0:=r.at hi;have r1:=r.at hj;refine tT (v:=.bool false) (w':=w) hg ?_ ⟨rfl,_,h,X,k,g,r.put o.dst (.b _),.refl _ _ _⟩;have he:(execOp a.eval o).run P w=(callFunc f #[a.eval (.tmp j),a.eval (.tmp i)]).run P w:=by
  simp[execOp,ho,resolve,Deferred.ofValue,invoke,Act.eval]
 rw[he];refine hx _ _ w ?_;generalize a.eval (.tmp i)=v at r0;generalize a.eval (.tmp j)=u at r1;cases r0 with
 |dead hr hd _=>simp only[AV.refs,aB]at hr;subst hr;rw[hid]at hd;cases hd
 |hs0=>omega
 | @hs _ _ _ _ fz s cells' b o' cap T' N hid' hι hsh hle hnc hN ht hf=>
 rw[hid]at hid';cases hid';have ok:=g.objs _ _ hid;cases ok with
 |absent h0=>rw[h0]at hι;cases hι
 | @arr _ _ _ b' o' cur Tb fr i0 hb hf1 hf2 hlen h1 hr hc1=>
 rw[i0]at hι;simp only[aB,bH]at hι;obtain⟨rfl,rfl⟩:=hι;obtain⟨hF,rfl⟩:=hf2 rfl;cases r1 with
 |dead hr _ _=>simp[AV.refs]at hr
 |sl0=>simp at hc
 | @sl _ _ vb vo vc cs Tv fv hFv hbv hlv=>
 refine aAh w tS tR el hT s0 hs _ _ _ _ _ _ (fun e=>?_) Tv Tb cs.size cur.size ?_ ?_ ?_ ?_ ?_
 ·simp only at e;subst e;exact hF hFv
 ·simp[World.shape?,hbv]
 ·simp[World.shape?,hb]
 ·omega
 ·simp[World.frozen?,hb]
 ·simp[World.frozen?,hb]
theorem aQk{X:Ctx}{w:World}{h:List AObj}{env:List AV}{a:Act}{o1 o2:Oper}{l:List Oper}{al:List gA}{T U el:TypeId}{kn:IntKind}{i j d1 d2 id n m q by_:Nat}{cells z:List AV}{K:List AV→List AObj→Prop}
 (ho1:o1.op=.slice T (.tmp j) none (some (.tmp i)) none) (hd1:o1.dst=some d1) (hg1:o1.guard=none) (hst:bY .off ops l=some al) (ho2:o2.op=.call ⟨.builtin .append,#[.tmp d1,.tmp d2],#[T,U]⟩) (hg2:o2.guard=none)
 (hT:fV P T=some el) (hU:P.underlying U=some (.int kn)) (hzo:zeroOf P el=some z) (hs:lP P el=some z.length) (hby:aCo P el=some by_) (hz0:0<z.length)
 (hj:env[j]? = some (.hs id 0 n true)) (hi:env[i]? = some (.i .i64 m)) (hid:h[id]? = some (.arr false z.length cells)) (h0:0<n) (hm:m≤n) (hq:n<m+q) (hd:d1<env.length)
 (hb:(m+q)*by_≤140737488355328) (hb2:m+q≤140737488355328)
 (H:∀v,dN P G.np none al (fun env' h'=>h'=h∧env'[d1]? = some (.p v)∧env'[d2]? = some (.i .i64 q)∧K (iV env' o2.dst (.hs h.length 0 (m+q) false)) (h++[.arr false z.length (cells.take (m*z.length)++(List.replicate q z).flatten)])) (env.set d1 (.p v)) h)
 (g:GH G X w h) (r:EnvOK G.ds X w h env a):wpList P ops (fun e a' w'=>e=.normal∧mI G X w h K a' w') (o1::(l++[o2])) a w:=by
 have ht:=pK hT;have r0:=r.at hj;have r1:=sW (r.at hi);have hl1:d1<a.tmps.size:=r.size▸hd;generalize hv:a.eval (.tmp j)=v at r0;cases r0 with
 |dead hr hd _=>simp only[AV.refs,aB]at hr;subst hr;rw[hid]at hd;cases hd
 |hs0=>omega
 | @hs _ _ _ _ fz s cells' b o' cap T' N hid' hι hsh hle hnc hN htt hf=>
 rw[hid]at hid';cases hid';obtain rfl:=htt rfl;have hrun1:=K9 (P:=P) (n:=cap) (a:=⟨b,o'+0,none⟩) w ht hs hm;refine tT (v:=.slice (some ⟨b,o'+0,none⟩) m cap) (w':=w) hg1 (by simp[execOp,ho1,hv,r1,hrun1,-Nat.add_zero]) ?_;rw[hd1];have r2:EnvOK G.ds X w h (env.set d1 (.p (.slice (some ⟨b,o'+0,none⟩) m cap))) (a.put (some d1) (.slice (some ⟨b,o'+0,none⟩) m cap)):=r.put (some d1) (.p _ rfl);refine U9 (lX (G:=G.np) l al hst _ h X w _ (H _) g r2 ?_ (fun _ v a' w' ⟨_,_,_,k,_⟩=>k.elim));rintro a2 w2 ⟨env2,hh,X2,⟨e0,e1,e2,hK⟩,g2,r3,t2⟩;have e0:h=hh:=e0.symm;subst e0;have hι2:X2.ι id=some (b,o'):=by
  obtain⟨oo,ho,c⟩:=t2.ext.obj _ _ hid;rw[hid]at ho;cases ho;rcases c with c|⟨_,c⟩
  ·cases c
  ·exact(c.resolve_right (by simp[AObj.mv])).trans hι
 have ok:=g2.objs _ _ hid;cases ok with
 |absent i0=>rw[i0]at hι2;cases hι2
 | @arr _ _ _ b' o'' cur Tb fr i0 hbk hf1 hf2 hlen h1 hr hc1=>
 rw[i0]at hι2;simp only[aB,bH]at hι2;obtain⟨rfl,rfl⟩:=hι2;obtain⟨hF,rfl⟩:=hf2 rfl;obtain⟨ti,zv,hti,hiz,hzc⟩:=jD hzo;have hzs:=wY hzc;have hisz:ti.size=z.length:=by obtain⟨i',k1,k2⟩:=K0 hs;rw[hti]at k1;cases k1;exact k2
 have hiby:ti.bytes=by_:=zS hti hby
 have hv1:a2.eval (.tmp d1)=.slice (some ⟨b',o''+0,none⟩) m cap:=by
  have:=r3.at e1;generalize a2.eval (.tmp d1)=u at this;cases this with
  |p _ _=>rfl
  |dead hr _ _=>simp[AV.refs]at hr
 have hv2:a2.eval (.tmp d2)=.int .i64 q:=sW (r3.at e2);have hmc:=cN z.length hm;have hold:(Builtin.firstCells ti.size m (.slice (some ⟨b',o''+0,none⟩) m cap)).run P w2.drew=.ok (cur.extract o'' (o''+m*z.length)).toList.toArray w2.drew:=by
  rw[hisz];refine run_firstCells_some w2.drew z.length m _ m cap _ (by simp;omega) ?_;intro j v hj;rw[iR,jK]at hj;split at hj
  ·rw[Addr.add_lit,cell_of_row w2.drew b' _ cur Tb (0,0) hbk];rw[← hj];congr 1
  ·cases hj
 have hrun:=Lib.run_append_grow_zeros (P:=P) w2 T U o2.type el ti zv .i64 kn ht hU hti hiz (some ⟨b',o''+0,none⟩) m cap _ hold q (by omega) (by omega) hq (by omega) (by rw[hiby];have:=cN by_ (show q≤m+q by omega);omega) (growslice_fits hq (by rw[hiby];exact hb));have hge:=grownCap_ge w2 (m+q) cap el;have hzk:=vH (X:=X2) (w:=w2) (h:=h) hzc q;have hzeq:(Array.range (q*z.length)).map (zv.cells[· % zv.cells.size]!)=Builtin.zeroCells zv.cells q:=by rw[Builtin.zeroCells,hzs]
 rw[hzeq]at hzk;obtain⟨k1,k2,k3⟩:=hzk;have hol:(cur.extract o'' (o''+m*z.length)).size=m*z.length:=by simp;omega
 have hct:(cells.take (m*z.length)).length=m*z.length:=by rw[List.length_take];omega
 have hzn:(Builtin.zeroCells zv.cells q).size=q*z.length:=by rw[size_zeroCells,hzs]
 have hzl:(List.replicate q z).flatten.length=q*z.length:=lT z q;have hgm:=cN z.length hge;rw[Nat.add_mul]at hgm;generalize hrow:((cur.extract o'' (o''+m*z.length)).toList.toArray++Builtin.zeroCells zv.cells q++Builtin.zeroCells zv.cells (grownCap w2 (m+q) cap el-(m+q)))=row at hrun;have hrl:row.size=grownCap w2 (m+q) cap el*z.length:=by
  rw[← hrow];simp only[kP,gN,Array.length_toList,hol,hzn,size_zeroCells,hzs,← Nat.add_mul];congr 1;omega
 have hc2:kF row:=by
  intro j v hv;rw[← hrow]at hv;rcases qL.1 (gX hv)with h1|h1
  ·rcases qL.1 h1 with h1|h1
   ·rw[jC]at h1;obtain⟨j',hj'⟩:=Array.mem_iff_getElem?.1 h1;rw[jK]at hj';split at hj'
    ·exact hc1 _ _ hj'
    ·cases hj'
   ·exact aAc (kS (X:=X2) (w:=w2) (h:=h) hzc).2.1 _ h1
  ·exact aAc (kS (X:=X2) (w:=w2) (h:=h) hzc).2.1 _ h1
 have hp:=iD.drew w2 (.cells row el (0,0));have hrel:∀(j:Nat) (x:AV) (v:Value),(cells.take (m*z.length)++(List.replicate q z).flatten)[j]? = some x→row[j]? = some v→RV X2 w2 h x v:=by
  intro j x v hx hv;have hjl:=bP hx;rw[List.length_append,hct,hzl]at hjl;rw[← hrow,dU (by simp only[kP,gN,Array.length_toList,hol,hzn];omega)]at hv;by_cases hj:j<m*z.length
  ·rw[aG (by omega),dY,if_pos hj]at hx;rw[dU (by simp only[gN,Array.length_toList,hol];exact hj)]at hv;simp only[cR,iR,jK]at hv;split at hv
   ·exact hr j x v hx hv
   ·cases hv
  ·rw[aR (by omega),hct]at hx;rw[D7 (by simp only[gN,Array.length_toList,hol];omega)]at hv;simp only[gN,Array.length_toList,hol]at hv;exact k3 _ x v hx hv
 obtain⟨g',t'⟩:=qP g2 hp _ ((nB g2 hp (cells.take (m*z.length)++(List.replicate q z).flatten) (by rw[List.length_append,hct,hzl];omega) (fun j v _ hv=>hc2 j v hv) hrel).2 hc2 z.length);refine tT (v:=.slice (some ⟨w2.heap.size,0,none⟩) (m+q) (grownCap w2 (m+q) cap el)) (w':=w2.drew.alloc (.cells row el)) hg2 ?_ ⟨rfl,_,_,_,hK,g',?_,t2.trans t'⟩
 ·simp[execOp,ho2,resolve,invoke,builtin,hv1,hv2,hrun,-Nat.add_zero]
 ·refine(r3.mono t'.ext).put o2.dst ?_;have hsh:(w2.drew.alloc (.cells row el (0,0))).shape? w2.heap.size=some (el,row.size):=by simp only[World.shape?,hp.at]
  have:=RV.hs (X:=X2.upd h.length (some (w2.heap.size,0))) (w:=w2.drew.alloc (.cells row el (0,0))) (h:=h++[.arr false z.length (cells.take (m*z.length)++(List.replicate q z).flatten)]) (id:=h.length) (off:=0) (n:=m+q) (t:=false) (cap:=grownCap w2 (m+q) cap el) (fz:=false) (sz:=z.length)
   (cells:=cells.take (m*z.length)++(List.replicate q z).flatten) (by simp) (Ctx.upd_same _ _ _) hsh (by rw[List.length_append,hct,hzl,Nat.add_mul];omega) hge (by omega) (by simp) (fun _=>by rw[List.length_append,hct,hzl];omega)
  simpa using this
theorem aJj{X:Ctx}{w:World}{h:List AObj}{env:List AV}{a:Act}{o1 o2:Oper}{al:List gA}{T U el:TypeId}{kn:IntKind}{i j d1 d2 id n m q by_:Nat}{cells z:List AV}{K:List AV→List AObj→Prop}
 (k c:Nat) (hL:(ops.toList.drop k).take (c+2)=o1::((ops.toList.drop (k+1)).take c++[o2]))
 (ho1:o1.op=.slice T (.tmp j) none (some (.tmp i)) none) (hd1:o1.dst=some d1) (hg1:o1.guard=none) (hst:bY .off ops ((ops.toList.drop (k+1)).take c)=some al) (ho2:o2.op=.call ⟨.builtin .append,#[.tmp d1,.tmp d2],#[T,U]⟩) (hg2:o2.guard=none)
 (hT:fV P T=some el) (hU:P.underlying U=some (.int kn)) (hzo:zeroOf P el=some z) (hs:lP P el=some z.length) (hby:aCo P el=some by_) (hz0:0<z.length)
 (hj:env[j]? = some (.hs id 0 n true)) (hi:env[i]? = some (.i .i64 m)) (hid:h[id]? = some (.arr false z.length cells)) (h0:0<n) (hm:m≤n) (hq:n<m+q) (hd:d1<env.length)
 (hb:(m+q)*by_≤140737488355328) (hb2:m+q≤140737488355328)
 (H:∀v,dN P G.np none al (fun env' h'=>h'=h∧env'[d1]? = some (.p v)∧env'[d2]? = some (.i .i64 q)∧K (iV env' o2.dst (.hs h.length 0 (m+q) false)) (h++[.arr false z.length (cells.take (m*z.length)++(List.replicate q z).flatten)])) (env.set d1 (.p v)) h)
 (g:GH G X w h) (r:EnvOK G.ds X w h env a):wpList P ops (fun e a' w'=>e=.normal∧mI G X w h K a' w') ((ops.toList.drop k).take (c+2)) a w:=by
 rw[hL];exact aQk ho1 hd1 hg1 hst ho2 hg2 hT hU hzo hs hby hz0 hj hi hid h0 hm hq hd hb hb2 H g r
theorem F5{T U ty e1 e2:TypeId}{u v:Value}(w:World)(hT:P.underlying T=some (.slice e1))(hU:P.underlying U=some (.slice e2)) :
 (Builtin.append_ #[T,U] ty #[u,v]).run P w=(Builtin.append_ #[T,T] ty #[u,v]).run P w:=by
 unfold Builtin.append_;simp only[cR,bT,bZ,cD,run_underlying hT,run_underlying hU,bO];cases u<;>simp only[cD,run_underlying hT,run_underlying hU,bO,eE]
theorem bAi{X:Ctx}{w:World}{h h':List AObj}{env:List AV}{a:Act}{o:Oper}{T U e1 e2:TypeId}{i j:Nat}{A B y:AV}{K:List AV→List AObj→Prop}
 (ho:o.op=.call ⟨.builtin .append,#[.tmp j,.tmp i],#[T,U]⟩) (hg:o.guard=none) (hT:P.underlying T=some (.slice e1)) (hU:P.underlying U=some (.slice e2)) (hj:env[j]? = some A) (hi:env[i]? = some B)
 (he:iE P h T A B=some (y,h')) (k:K (iV env o.dst y) h') (g:GH G X w h) (r:EnvOK G.ds X w h env a):wpList P ops (fun e a' w'=>e=.normal∧mI G X w h K a' w') [o] a w:=by
 obtain⟨X',w',y',hrun,ry,g',t⟩:=zV (ty:=o.type) g (r.at hj) (r.at hi) he;refine tT (v:=y') (w':=w') hg ?_ ⟨rfl,_,h',X',k,g',(r.mono t.ext).put o.dst ry,t⟩;have:=(F5 (ty:=o.type) w hT hU).trans hrun;simp[execOp,ho,resolve,invoke,builtin,this]
end
end Go.Vo
