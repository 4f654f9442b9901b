/-
  The abstract layer, part Df: functions that defer a call. It speaks of any program; no condition.
-/
import Derived.Test.YtdjcggcjlphdoaaGreatDoorVoP16
import Derived.Recover
set_option linter.unusedVariables false
set_option linter.unusedSimpArgs false
namespace Go.Vo
section
variable {P:Program} {G:Glob} {fn:Func} {R:Ending→World→Prop} {X0:Ctx} {w0:World} {h0:List AObj} {ds:List Deferred} {env:List AV} {h:List AObj}
def AtD(P:Program)(G:Glob)(fn:Func)(R:Ending→World→Prop)(X0:Ctx)(w0:World)(h0:List AObj)(ds:List Deferred)(c:Code)(env:List AV)(h:List AObj):Prop:=
 ∀(X:Ctx) (w:World) (a:Act),GH G X w h→EnvOK ds X w h env a→Tr X0 w0 h0 X w h→c.wp P (bodyPostD P fn R) a w
def cIi(P:Program)(G:Glob)(fn:Func)(R:Ending→World→Prop)(X0:Ctx)(w0:World)(h0:List AObj)(env:List AV)(h:List AObj):Prop:=
 ∀(X:Ctx) (w:World) (a:Act),GH G X w h→EnvOK [] X w h env a→Tr X0 w0 h0 X w h→∃v,(results fn a.tmps).run P w=.ok v w∧R (.returned v) w
theorem bRo{c1 c2:Code}(first:AW P (pl G) c1 (fun e env' h'=>match e with| .normal=>AtD P G fn R X0 w0 h0 [] c2 env' h'| .ret=>cIi P G fn R X0 w0 h0 env' h'|_=>False) env h):AtD P G fn R X0 w0 h0 [] (.seq c1 c2) env h:=by
 intro X w a g r t;refine wp_seq (wp_mono (first X w a g r) ?_);rintro e a' w' ⟨env',h',X',k,g',r',t'⟩;have k:=aIh k;cases e with
 |normal=>exact k X' w' a' g' r' (t.trans t')
 |ret=>
  show Leaves P fn a'.tmps R a'.defers .returning w';have hd:a'.defers=[]:=r'.defers;rw[hd];exact k X' w' a' g' r' (t.trans t')
 |_=>exact k.elim
theorem aZx{id:Nat}{o:Oper}{rest:Code}{d:Act→Deferred}(hg:o.guard=none)(hd:o.dst=none)
 (hx:∀(X:Ctx) (w:World) (a:Act),GH G X w h→EnvOK [] X w h env a→Tr X0 w0 h0 X w h→(execOp a.eval o).run P w=.ok (.defer (d a)) w∧AtD P G fn R X w h [d a] rest env h):AtD P G fn R X0 w0 h0 [] (.seq (.region id #[o] false) rest) env h:=by
 intro X w a g r t;obtain⟨h1,h2⟩:=hx X w a g r t;refine wp_seq (wp_region ?_);have e:List.range (#[o]:Array Oper).size=[0]:=rfl;rw[e];simp only[wpOps];have e1:(#[o]:Array Oper)[0]? = some o:=rfl;rw[e1];dsimp only;have hw:Region.wanted o (yielded #[o] a.tmps)=true:=by simp[Region.wanted,hg]
 rw[if_pos hw];refine .inl ?_;rw[Oper.wp,h1,Oper.upon_defer,hd];show(Exit.then (rest.wp P (bodyPostD P fn R)) (bodyPostD P fn R)) .normal _ w;have hd0:a.defers=[]:=r.defers;rw[hd0];exact h2 X w _ g ⟨rfl,r.size,fun j x v hx hv=>r.rel j x v hx hv⟩ (.refl _ _ _)
theorem bHn{c:Code}{pan:Value→List AV→List AObj→Prop}{Q:Exit→List AV→List AObj→Prop}(body:AW P ⟨G,pan,ds⟩ c Q env h)
 (post:∀(e:Exit) (env':List AV) (h':List AObj) (X':Ctx) (w':World) (a':Act),bOb ⟨G,pan,ds⟩ Q e env' h'→GH G X' w' h'→EnvOK ds X' w' h' env' a'→Tr X0 w0 h0 X' w' h'→bodyPostD P fn R e a' w'):AtD P G fn R X0 w0 h0 ds c env h:=by
 intro X w a g r t;refine wp_mono (body X w a g r) ?_;rintro e a' w' ⟨env',h',X',k,g',r',t'⟩;exact post e env' h' X' w' a' k g' r' (t.trans t')
theorem aCe{f:FuncId}{c:Code}{args:List AV}{K:AV→List AObj→Prop}(hf:P.funcs[f]? = some fn)(hb:fn.body=some c)(hcal:iC P f=true)
 (H:∀(X:Ctx) (w:World),GH G X w h→AtD P G fn (fun e w'=>∃v r h' X',e=.returned v∧K r h'∧GH G X' w' h'∧RV X' w' h' r v∧Tr X w h X' w' h') X w h [] c (args++List.replicate (fn.ntmps-args.length) .u) h):ACalls P G f args h K:=by
 refine⟨hcal,?_⟩;intro X w vs g hl hr;have r0:EnvOK [] X w h (args++List.replicate (fn.ntmps-args.length) .u) {tmps:=vs++Array.replicate (fn.ntmps-vs.size) undef,defers:=[]}:=by
  refine⟨rfl,by simp[hl],?_⟩;intro j x v hx hv;by_cases hj:j<args.length
  ·rw[aG hj]at hx;rw[dU (by omega)]at hv;exact hr j x v hx hv
  ·rw[aR (by omega),mT]at hx;split at hx
   ·cases hx;exact .u _
   ·cases hx
 exact calls_of_wp_defers hf hb (H X w g X w _ g r0 (.refl _ _ _))
theorem bQg{K:AV→List AObj→Prop}{x:AV}(hx:R4 P fn.results.toList env h=some x)(hK:K x h) :
 cIi P G fn (fun e w'=>∃v r h' X',e=.returned v∧K r h'∧GH G X' w' h'∧RV X' w' h' r v∧Tr X0 w0 h0 X' w' h') X0 w0 h0 env h:=by
 intro X w a g r t;obtain⟨v,hrun,rx⟩:=aCa g r hx;exact⟨v,hrun,v,x,h,X,rfl,hK,g,rx,t⟩
theorem aBk{f:FuncId}{args:List AV}{r:AV}(hG:oR G)(s:ACalls P G f args [] (fun x h=>Fin h x r)):Ctr P G f args r:=by
 refine⟨s.1,hG,?_⟩;intro F w vs hF hgl hl hr;have g0:GH G (.none F) w []:=⟨fun id ob h=>by simp at h,fun id bo h=>by simp[Ctx.none]at h,fun id id' b o o' h=>by simp[Ctx.none]at h,fun id b o h=>by simp[Ctx.none]at h,hF,hgl⟩;refine(s.2 (.none F) w vs g0 hl hr).mono ?_;rintro e w' ⟨v,x,h',X',rfl,hfin,g',rx,t⟩;have hgr:J2 w w':=⟨fun b hb=>t.step.frame b hb (fun id o e=>by simp[Ctx.none]at e),t.step.size,t.step.os,t.step.tape,t.step.output⟩;have hι:∀id b o,X'.ι id=some (b,o)→w.heap.size≤b:=by
  intro id b o hb;rcases t.step.new id b o hb with h|⟨_,_,h⟩
  ·exact h
  ·simp[Ctx.none]at h
 have hFB:∀(ids:List Nat),(∀b,F b→FB X' ids b)∧(∀b,FB X' ids b→F b∨w.heap.size≤b)∧(∀b,FB X' ids b→b<w'.heap.size):=by
  intro ids;refine⟨fun b hb=>.inl (t.ext.fr b hb),?_,?_⟩
  ·rintro b (hb|⟨id,o,_,ho⟩)
   ·rcases t.step.fnew b hb with h|h|⟨_,_,h⟩
    ·exact .inl h
    ·exact .inr h
    ·simp[Ctx.none]at h
   ·exact .inr (hι _ _ _ ho)
  ·rintro b (hb|⟨id,o,_,ho⟩)
   ·exact g'.fbnd b hb
   ·exact g'.bnd _ _ _ ho
 rcases hfin with⟨rfl,hp⟩|⟨hok,hnd,hdis⟩
 ·exact⟨v,FB X' [],[],rfl,hgr,(hFB []).1,(hFB []).2.1,(hFB []).2.2,RR.val (rx.pers hp (fun b hb=>.inl hb) (fun _ _=>rfl)),fI,by simp⟩
 ·refine⟨v,FB X' (dJ x r),aBr X' (dJ x r),rfl,hgr,(hFB _).1,(hFB _).2.1,(hFB _).2.2,aXn g' _ x r v hok rx hdis,C6 g' hnd,?_⟩;intro b hb;obtain⟨id,hi,o,ho⟩:=aBq hb;refine⟨?_,hι _ _ _ ho⟩;rintro(hF'|⟨id',o',hn,ho'⟩)
  ·obtain⟨sz,cs,hid⟩:=aBf x r hok id hi;have ok:=g'.objs _ _ hid;cases ok with
   |arr h0 h1 h2 h3=>rw[h0]at ho;cases ho;exact(h3 rfl).1 hF'
   |absent h0=>rw[h0]at ho;cases ho
  ·exact hn (g'.inj _ _ _ _ _ ho ho'▸hi)
structure bBg(P:Program)(f:FuncId)(tm:Value)(Z:TypeId):Prop where
 idle:∀(p:Addr) (w:World),CallsD P f #[.pointer (some p)] .returning w fun e u' w'=>e=.returned (.tuple #[])∧u'=.returning∧w'=w
 many:∀(p:Addr) (x:Value) (older:List PanicEntry) (w:World),(w.alloc (.cells #[] Z)).cell? p=some x→(w.alloc (.cells #[] Z)).frozen? p=false →
  CallsD P f #[.pointer (some p)] (.panicking ({v:=tm,recovered:=false}::older)) w fun e u' w'=>e=.returned (.tuple #[])∧u'=.panicking ({v:=tm,recovered:=true}::older)∧w'=(w.alloc (.cells #[] Z)).setCell p (.int .i64 3)
abbrev cBf(G:Glob)(X0:Ctx)(w0:World)(h0:List AObj)(K:AV→List AObj→Prop):Ending→World→Prop:=
 fun e w'=>∃v r h' X',e=.returned v∧K r h'∧GH G X' w' h'∧RV X' w' h' r v∧Tr X0 w0 h0 X' w' h'
theorem aBz{rx:Bool}{th:Nat→Option TH}{c1 c2:Code}{ac:kN}{K:AV→List AObj→Prop}(hm:P.follows .mixedOrders=true)(hd:jF rx th c1=true)(hs:strip rx th c1=some ac)
 (H:awx P (pl G) ac (fun e env' h'=>match e with| .normal=>AtD P G fn (cBf G X0 w0 h0 K) X0 w0 h0 [] c2 env' h'| .ret=>∃x,R4 P fn.results.toList env' h'=some x∧K x h'|_=>False) env h) :
 AtD P G fn (cBf G X0 w0 h0 K) X0 w0 h0 [] (.seq c1 c2) env h:=by
 refine bRo fun X w a g r=>wp_mono (uU hm c1 ac hd hs _ _ _ H X w a g r) ?_;rintro e a' w' ⟨env',h',X',k,g',r',t'⟩;refine⟨env',h',X',?_,g',r',t'⟩;cases e with
 |ret=>obtain⟨x,hx,hK⟩:=k;exact bQg hx hK
 |_=>exact k
theorem aZy{f:FuncId}{tm:Value}{Z E:TypeId}{id k j:Nat}{o:Oper}{rest:Code}{ac:kN}{tys:Array TypeId}{rx:Bool}{th:Nat→Option TH}{K:AV→List AObj→Prop}{c0:AV}
 (hm:P.follows .mixedOrders=true) (C:bBg P f tm Z) (hE:lP P E=some 1) (hop:o.op=.defer ⟨.value (.func f),#[.tmp j],tys⟩) (hg:o.guard=none) (hdst:o.dst=none)
 (hfn:∀(x:Value) (w:World),(invoke (.fn (.func f) #[]) #[x]).run P w=.ok (.enter f #[x]) w)
 (hj:env[j]? = some (.ptr id 0)) (hid:h[id]? = some (.box false [c0])) (hd:jF rx th rest=true) (hs:strip rx th rest=some ac)
 (H:∀ds,awx P ⟨G,fun v env' h'=>v=tm∧(∃e1,h'[id]? = some (.box false [e1]))∧∃x,R4 P fn.results.toList env' (h'.set id (.box false [.i .i64 3]))=some x∧K x (h'.set id (.box false [.i .i64 3])),ds⟩ ac
  (fun e env' h'=>(e=.normal∨e=.ret)∧∃x,R4 P fn.results.toList env' h'=some x∧K x h') env h) :
 AtD P G fn (cBf G X0 w0 h0 K) X0 w0 h0 [] (.seq (.region k #[o] false) rest) env h:=by
 refine aZx (d:=fun a=>{target:=.fn (.func f) #[],args := #[a.eval (.tmp j)]}) hg hdst fun X w a g r t=>⟨?_,?_⟩
 ·simp[execOp,hop,resolve,Deferred.ofValue,Act.eval]
 obtain⟨b,o1,hι,hev⟩:∃b o1,X.ι id=some (b,o1)∧a.eval (.tmp j)=.pointer (some ⟨b,o1,none⟩):=by
  have hjl:j<a.tmps.size:=r.size▸bP hj;have rv:=r.rel j _ a.tmps[j] hj (by simp[hjl]);have he:a.eval (.tmp j)=a.tmps[j]:=by simp[Act.eval,hjl]
  rw[he];generalize a.tmps[j]=v at rv;cases rv with
  |ptr h1 h2 h3=>exact⟨_,_,h3,rfl⟩
  |dead h1 h2=>simp only[AV.refs,aB]at h1;subst h1;rw[hid]at h2;cases h2
 rw[hev];refine bHn (uU hm rest ac hd hs _ _ _ (H _)) ?_;intro e env' h' X' w' a' k' g' r' t';have hdf:a'.defers=_:=r'.defers;have fin:∀{D:List Deferred} {X1:Ctx} {w1:World} {h1:List AObj},GH G X1 w1 h1→EnvOK D X1 w1 h1 env' a'→Tr X w h X1 w1 h1→(∃x,R4 P fn.results.toList env' h1=some x∧K x h1)→Leaves P fn a'.tmps (cBf G X0 w0 h0 K) [] .returning w1:=by
  rintro D X1 w1 h1 g1 r1 t1 ⟨x,hres,hK⟩;obtain⟨v,hrun,rx⟩:=aCa g1 r1 hres;exact⟨v,hrun,v,x,h1,X1,rfl,hK,g1,rx,t.trans t1⟩
 have ret:(∃x,R4 P fn.results.toList env' h'=some x∧K x h')→Leaves P fn a'.tmps (cBf G X0 w0 h0 K) a'.defers .returning w':=by
  intro hx;rw[hdf];refine leaves_cons (by simp) (hfn _ _) ((C.idle _ w').mono ?_);rintro e u' w'' ⟨rfl,rfl,rfl⟩;exact fin g' r' t' hx
 cases e with
 |normal=>exact ret k'.2
 |ret=>exact ret k'.2
 |panic ch=>
  obtain⟨v,rfl,rfl,⟨e1,hid'⟩,hx⟩:=k';show Leaves P fn a'.tmps _ a'.defers _ w';rw[hdf];have ga:=zE g' ⟨fun b hb=>iD.old (iD.alloc w' (.cells #[] Z)) hb,by have:=(iD.alloc w' (.cells #[] Z)).size;omega,rfl,rfl,rfl⟩ [] X'.F (fun _ h=>h) (by simp) (fun b _ hb=>.inl hb) (fun b hb=>by have:=g'.fbnd b hb;have:=(iD.alloc w' (.cells #[] Z)).size;omega) (by simp) (by simp);generalize hW:w'.alloc (.cells #[] Z)=W at ga;obtain⟨g2,t2⟩:=ga;have hι':X'.ι id=some (b,o1):=by
   obtain⟨o',ho',c⟩:=t'.ext.obj _ _ hid;rw[hid']at ho';cases ho';rcases c with c|⟨_,c⟩
   ·cases c
   ·exact(c.resolve_right (by simp[AObj.mv])).trans hι
  have rp:RV ⟨X'.F,X'.ι⟩ W (freeze [] h') (.ptr id 0) (.pointer (some ⟨b,o1+0,none⟩)):=.ptr hid' (by simp) hι';obtain⟨w2,hst,g3,t3⟩:=aLb (P:=P) (T:=E) (x:=.i .i64 3) (u:=.int .i64 3) (h':=h'.set id (.box false [.i .i64 3])) g2 rp (.i _ _) (by
   simp[uV,kY,AV.one,hE,freeze,hid',kO])
  obtain⟨cs,Tb,hb,ho⟩:∃cs Tb,W.heap[b]? = some (.cells cs Tb (0,0))∧o1<cs.size:=by
   have ok:=g2.objs _ _ (show(freeze [] h')[id]? = some (.box false [e1])from hid');cases ok with
   |absent h0=>rw[show X'.ι id=none from h0]at hι';cases hι'
   |box i0 i1 i2 i3 i4=>
    rw[show X'.ι id=_ from i0]at hι';cases hι';obtain⟨_,rfl⟩:=i3 rfl;exact⟨_,_,i1,by simp at i4;omega⟩
  have hc:W.cell? ⟨b,o1,none⟩=some cs[o1]:=by simp[World.cell?,hb,ho]
  have hz:W.frozen? ⟨b,o1,none⟩=false:=by simp[World.frozen?,hb]
  have hst2:(Instr.storeAt E (.pointer (some ⟨b,o1+0,none⟩)) (.int .i64 3)).run P W=.ok () (W.setCell ⟨b,o1,none⟩ (.int .i64 3)):=by
   simp[Instr.storeAt,Instr.sureAddr,storeVar,gL hE,Value.cells,go_sem,hc,hz]
  rw[hst]at hst2;obtain rfl:w2=W.setCell ⟨b,o1,none⟩ (.int .i64 3):=by simpa using hst2
  have t4:=t'.trans (t2.trans t3);refine leaves_cons (by simp) (hfn _ _) ((C.many _ _ [] w' (by rw[hW];exact hc) (by rw[hW];exact hz)).mono ?_);rintro e u' w'' ⟨rfl,rfl,rfl⟩;rw[hW];exact fin g3 (r'.mono (t2.ext.trans t3.ext)) t4 hx
 |_=>exact absurd k'.1 (by simp)
end
end Go.Vo
