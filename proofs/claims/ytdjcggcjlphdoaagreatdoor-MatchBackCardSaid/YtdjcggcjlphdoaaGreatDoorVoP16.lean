/-
  The abstract layer, part X: functions that work on objects of their caller: shown over a small heap, used in any. It speaks of any program; no condition.
-/
import Derived.Test.YtdjcggcjlphdoaaGreatDoorVoP15
set_option linter.unusedVariables false
set_option linter.unusedSimpArgs false
set_option linter.constructorNameAsVariable false
namespace Go.Vo
section
variable {P:Program} {G:Glob}
theorem uZ{rx:Bool}{th:Nat→Option TH}(hm:P.follows .mixedOrders=true){f:FuncId}{fn:Func}{c:Code}{ac:kN}{args:List AV}{h:List AObj}{K:AV→List AObj→Prop}(hf:P.funcs[f]? = some fn)(hb:fn.body=some c)(hcal:iC P f=true)(hd:jF rx th c=true)(hs:strip rx th c=some ac)
 (H:awx P (pl G) ac (fun e env h'=>(e=.normal∨e=.ret)∧∃x,R4 P fn.results.toList env h'=some x∧K x h') (args++List.replicate (fn.ntmps-args.length) .u) h):ACalls P G f args h K:=by
 refine⟨hcal,?_⟩;intro X w vs g hl hr;have r0:EnvOK (pl G).ds X w h (args++List.replicate (fn.ntmps-args.length) .u) {tmps:=vs++Array.replicate (fn.ntmps-vs.size) undef,defers:=[]}:=by
  refine⟨rfl,by simp[hl],?_⟩;intro j x v hx hv;by_cases hj:j<args.length
  ·rw[aG hj]at hx;rw[dU (by omega)]at hv;exact hr j x v hx hv
  ·rw[aR (by omega),mT]at hx;split at hx
   ·cases hx;exact .u _
   ·cases hx
 refine calls_of_wp hf hb (wp_mono (uU hm c ac hd hs _ _ _ H X w _ g r0) ?_);rintro e a' w' ⟨env',h',X',hk,g',r',t⟩;obtain⟨he,x,hres,hK⟩:=aIh hk;obtain⟨v,hrun,rx⟩:=aCa g' r' hres;rcases he with rfl|rfl
 ·exact⟨r'.defers,v,hrun,v,x,h',X',rfl,hK,g',rx,t⟩
 ·exact⟨r'.defers,v,hrun,v,x,h',X',rfl,hK,g',rx,t⟩
end
mutual
def ren(σ:Nat→Nat):AV→AV
 | .hs id off n t=>.hs (σ id) off n t
 | .ptr id off=>.ptr (σ id) off
 | .mp id=>.mp (σ id)
 | .sl cells n=>.sl (renL σ cells) n
 | .own sz cells n=>.own sz (renL σ cells) n
 | .box cells off=>.box (renL σ cells) off
 | .mapv ks vs=>.mapv (renL σ ks) (renL σ vs)
 | .fn f a b=>.fn f (renL σ a) (renL σ b)
 | .agg cells=>.agg (renL σ cells)
 | .tup cells=>.tup (renL σ cells)
 | .u=>.u
 | .b x=>.b x
 | .i k n=>.i k n
 | .s l=>.s l
 | .p v=>.p v
 | .e0=>.e0
def renL(σ:Nat→Nat):List AV→List AV
 | []=>[]
 |a::l=>ren σ a::renL σ l
end
theorem vO(σ:Nat→Nat):∀(l:List AV),renL σ l=l.map (ren σ)
 | []=>rfl
 |a::l=>by simp only[renL,aK,vO σ l]
theorem eR{σ:Nat→Nat}{l:List AV}:(renL σ l).length=l.length:=by rw[vO,dP]
theorem jO{σ:Nat→Nat}{l:List AV}{j:Nat}:(renL σ l)[j]? = (l[j]?).map (ren σ):=by rw[vO,eV]
theorem jN{σ:Nat→Nat}{l:List AV}{j:Nat}{a:AV}(h:(renL σ l)[j]? = some a):∃b,l[j]? = some b∧a=ren σ b:=by
 rw[jO]at h;obtain⟨b,h1,h2⟩:=dG.1 h;exact⟨b,h1,h2.symm⟩
mutual
theorem yH(σ:Nat→Nat):∀(a:AV),pers a=true→ren σ a=a
 | .sl cells n,h=>by simp only[ren,renL_pers σ cells (by simpa[pers]using h)]
 | .box cells n,h=>by simp only[ren,renL_pers σ cells (by simpa[pers]using h)]
 | .mapv ks vs,h=>by
   simp only[pers,aA]at h;simp only[ren,renL_pers σ ks h.1,renL_pers σ vs h.2]
 | .fn f a b,h=>by
   simp only[pers,aA]at h;simp only[ren,renL_pers σ a h.1,renL_pers σ b h.2]
 | .agg cells,h=>by simp only[ren,renL_pers σ cells (by simpa[pers]using h)]
 | .tup cells,h=>by simp only[ren,renL_pers σ cells (by simpa[pers]using h)]
 | .u,_| .b _,_| .i _ _,_| .s _,_| .p _,_| .e0,_=>by simp[ren]
 | .own ..,h| .hs ..,h| .ptr ..,h| .mp _,h=>by simp[pers]at h
theorem renL_pers(σ:Nat→Nat):∀(l:List AV),persL l=true→renL σ l=l
 | [],_=>rfl
 |a::l,h=>by
  simp only[persL,aA]at h;simp only[renL,yH σ a h.1,renL_pers σ l h.2]
end
theorem aLq{σ:Nat→Nat}{a:AV}:(ren σ a).refs=a.refs.map σ:=by cases a<;>simp[ren,AV.refs]
def AObj.ren(σ:Nat→Nat):AObj→AObj
 | .dead=>.dead
 | .box fz c=>.box fz (renL σ c)
 | .arr fz s c=>.arr fz s (renL σ c)
 | .map fz ks vs=>.map fz (renL σ ks) (renL σ vs)
 | .sit l p=>.sit l p
 | .held m q=>.held m q
 | .mit cur ks vs=>.mit (cur.map fun(k,v)=>(Vo.ren σ k,Vo.ren σ v)) (renL σ ks) (renL σ vs)
theorem AObj.ren_isH{σ:Nat→Nat}{a:AObj}:(a.ren σ).isH=a.isH:=by cases a<;>rfl
theorem AObj.ren_mv{σ:Nat→Nat}{a:AObj}:(a.ren σ).mv=a.mv:=by cases a<;>rfl
section
variable {X X':Ctx} {w:World} {h h':List AObj} {σ:Nat→Nat}
theorem RV.up{a:AV}{v:Value}(r:RV X w h a v)(hF:∀b,X.F b→X'.F b)(ho:∀(i:Nat) (o:AObj),h[i]? = some o→h'[σ i]? = some (o.ren σ))(hι:∀(i:Nat) (o:AObj),h[i]? = some o→X'.ι (σ i)=X.ι i):RV X' w h' (ren σ a) v:=by
 induction r with
 |u v=>exact .u v
 |b x=>exact .b x
 |i k n=>exact .i k n
 |s l=>exact .s l
 |p v hv=>exact .p v hv
 |e0 a=>exact .e0 a
 |sl0 a cap=>exact .sl0 a cap
 |sl h1 h2 h3 h4 h5 _ ih=>
  refine .sl (hF _ h1) h2 (by rw[eR];exact h3) h4 (fun j v hj hv=>h5 j v (by rw[eR]at hj;exact hj) hv) ?_;intro j a v ha hv;obtain⟨b,hb,rfl⟩:=jN ha;exact ih j b v hb hv
 | @hs id off n t fz sz cells b o cap T N hid h2 h3 h4 h5 h6 h7 h8=>exact .hs (ho _ _ hid) ((hι _ _ hid).trans h2) h3 (by rw[eR];exact h4) h5 h6 h7 (by rw[eR];exact h8)
 |hs0 hid h2 h3=>exact .hs0 (ho _ _ hid) (by rw[eR];exact h2) (by rw[eR];exact h3)
 | @ptr id off ob b o hid h2 h3=>exact .ptr (ho _ _ hid) ⟨by have:=h2.1;cases ob<;>simp[AObj.ren]at this ⊢,AObj.ren_mv.trans h2.2⟩ ((hι _ _ hid).trans h3)
 |mp hid h2=>exact .mp (ho _ _ hid) ((hι _ _ hid).trans h2)
 | @dead a id v h1 hid h3=>exact .dead (id:=σ id) (by rw[aLq,h1];rfl) (ho _ _ hid) h3
 |box h1 h2 h3 h5 _ ih=>
  refine .box (hF _ h1) h2 (by rw[eR];exact h3) (fun j v hj hv=>h5 j v (by rw[eR]at hj;exact hj) hv) ?_;intro j a v ha hv;obtain⟨b,hb,rfl⟩:=jN ha;exact ih j b v hb hv
 |mapv h1 h2 h3 h4 _ _ h7 h8 ihk ihv=>
  refine .mapv (hF _ h1) h2 (by rw[eR];exact h3) (by rw[eR];exact h4) ?_ ?_ h7 h8
  ·intro j a v ha hv;obtain⟨b,hb,rfl⟩:=jN ha;exact ihk j b v hb hv
  ·intro j a v ha hv;obtain⟨b,hb,rfl⟩:=jN ha;exact ihv j b v hb hv
 |fn h1 h2 _ _ ih1 ih2=>
  refine .fn (by rw[eR];exact h1) (by rw[eR];exact h2) ?_ ?_
  ·intro j a v ha hv;obtain⟨b,hb,rfl⟩:=jN ha;exact ih1 j b v hb hv
  ·intro j a v ha hv;obtain⟨b,hb,rfl⟩:=jN ha;exact ih2 j b v hb hv
 |agg h1 h2 _ ih=>
  refine .agg (by rw[eR];exact h1) h2 ?_;intro j a v ha hv;obtain⟨b,hb,rfl⟩:=jN ha;exact ih j b v hb hv
 |tup h1 _ ih=>
  refine .tup (by rw[eR];exact h1) ?_;intro j a v ha hv;obtain⟨b,hb,rfl⟩:=jN ha;exact ih j b v hb hv
def bSb(σ:Nat→Nat)(h h':List AObj):Prop:=∀(i:Nat) (o':AObj),h'[σ i]? = some o'→∃o,h[i]? = some o∧o'=o.ren σ
theorem RV.down{a':AV}{v:Value}(r:RV X' w h' a' v)(hF:∀b,X'.F b→X.F b)(ho:bSb σ h h')(hι:∀(i:Nat) (bo:Nat×Nat),X'.ι (σ i)=some bo→X.ι i=some bo):∀a,a'=ren σ a→RV X w h a v:=by
 induction r with
 |u v=>intro a e;cases a<;>simp[ren]at e;exact .u v
 |b x=>intro a e;cases a<;>simp[ren]at e;subst e;exact .b x
 |i k n=>intro a e;cases a<;>simp[ren]at e;obtain⟨rfl,rfl⟩:=e;exact .i k n
 |s l=>intro a e;cases a<;>simp[ren]at e;subst e;exact .s l
 |p v hv=>intro a e;cases a<;>simp[ren]at e;subst e;exact .p v hv
 |e0 a=>intro a e;cases a<;>simp[ren]at e;exact .e0 _
 |sl0 a cap=>
  intro a e;cases a<;>simp[ren]at e;rename_i cells n;obtain⟨h1,rfl⟩:=e;have:cells=[]:=by cases cells<;>simp[renL]at h1 ⊢
  subst this;exact .sl0 _ _
 |sl h1 h2 h3 h4 h5 _ ih=>
  intro a e;cases a<;>simp[ren]at e;obtain⟨rfl,rfl⟩:=e;rw[eR]at h3;exact .sl (hF _ h1) h2 h3 h4 (fun j v hj hv=>h5 j v (by rw[eR];exact hj) hv) (fun j a v ha hv=>ih j _ v (by rw[jO,ha];rfl) hv a rfl)
 | @hs id off n t fz sz cells b o cap T N hid h2 h3 h4 h5 h6 h7 h8=>
   intro a e;cases a<;>simp[ren]at e;obtain⟨rfl,rfl,rfl,rfl⟩:=e;obtain⟨o0,h1,e0⟩:=ho _ _ hid;cases o0<;>simp[AObj.ren]at e0;obtain⟨rfl,rfl,rfl⟩:=e0;rw[eR]at h4 h8;exact .hs h1 (hι _ _ h2) h3 h4 h5 h6 h7 h8
 |hs0 hid h2 h3=>
  intro a e;cases a<;>simp[ren]at e;obtain⟨rfl,rfl,rfl,rfl⟩:=e;obtain⟨o0,h1,e0⟩:=ho _ _ hid;cases o0<;>simp[AObj.ren]at e0;obtain⟨rfl,rfl,rfl⟩:=e0;rw[eR]at h2 h3;exact .hs0 h1 h2 h3
 | @ptr id off ob b o hid h2 h3=>
   intro a e;cases a<;>simp[ren]at e;obtain⟨rfl,rfl⟩:=e;obtain⟨o0,h1,rfl⟩:=ho _ _ hid;exact .ptr h1 ⟨by rintro rfl;exact h2.1 rfl,AObj.ren_mv.symm.trans h2.2⟩ (hι _ _ h3)
 |mp hid h2=>
  intro a e;cases a<;>simp[ren]at e;subst e;obtain⟨o0,h1,e0⟩:=ho _ _ hid;cases o0<;>simp[AObj.ren]at e0;exact .mp h1 (hι _ _ h2)
 | @dead a' id v h1 hid h3=>
   intro a e;subst e;rw[aLq]at h1;obtain⟨i,hi,rfl⟩:=dG.1 h1;obtain⟨o0,h1',e0⟩:=ho _ _ hid;cases o0<;>simp[AObj.ren]at e0;exact .dead hi h1' h3
 |box h1 h2 h3 h5 _ ih=>
  intro a e;cases a<;>simp[ren]at e;obtain⟨rfl,rfl⟩:=e;rw[eR]at h3;exact .box (hF _ h1) h2 h3 (fun j v hj hv=>h5 j v (by rw[eR];exact hj) hv) (fun j a v ha hv=>ih j _ v (by rw[jO,ha];rfl) hv a rfl)
 |mapv h1 h2 h3 h4 _ _ h7 h8 ihk ihv=>
  intro a e;cases a<;>simp[ren]at e;obtain⟨rfl,rfl⟩:=e;rw[eR]at h3 h4;exact .mapv (hF _ h1) h2 h3 h4 (fun j a v ha hv=>ihk j _ v (by rw[jO,ha];rfl) hv a rfl) (fun j a v ha hv=>ihv j _ v (by rw[jO,ha];rfl) hv a rfl) h7 h8
 |fn h1 h2 _ _ ih1 ih2=>
  intro a e;cases a<;>simp[ren]at e;obtain⟨rfl,rfl,rfl⟩:=e;rw[eR]at h1 h2;exact .fn h1 h2 (fun j a v ha hv=>ih1 j _ v (by rw[jO,ha];rfl) hv a rfl) (fun j a v ha hv=>ih2 j _ v (by rw[jO,ha];rfl) hv a rfl)
 |agg h1 h2 _ ih=>
  intro a e;cases a<;>simp[ren]at e;subst e;rw[eR]at h1;exact .agg h1 h2 (fun j a v ha hv=>ih j _ v (by rw[jO,ha];rfl) hv a rfl)
 |tup h1 _ ih=>
  intro a e;cases a<;>simp[ren]at e;subst e;rw[eR]at h1;exact .tup h1 (fun j a v ha hv=>ih j _ v (by rw[jO,ha];rfl) hv a rfl)
theorem ObjOK.up{ob:AObj}{i:Nat}(r:ObjOK X w h i ob)(hF:∀b,X.F b↔X'.F b)(ho:∀(i:Nat) (o:AObj),h[i]? = some o→h'[σ i]? = some (o.ren σ))(hι:∀(i:Nat) (o:AObj),h[i]? = some o→X'.ι (σ i)=X.ι i)(hi:X'.ι (σ i)=X.ι i):ObjOK X' w h' (σ i) (ob.ren σ):=by
 have U:∀{a v},RV X w h a v→RV X' w h' (ren σ a) v:=fun r=>r.up (fun b=>(hF b).1) ho hι;cases r with
 |absent h0 hh=>exact .absent (hi.trans h0) (AObj.ren_isH.trans hh)
 |away h0 h1=>exact .away (hi.trans h0) h1
 |box h0 h1 h2 h3 h4 h5 h6=>
  refine .box (hi.trans h0) h1 (fun f=>(hF _).1 (h2 f)) (fun f=>⟨fun g=>(h3 f).1 ((hF _).2 g),(h3 f).2⟩) (by rw[eR];exact h4) (fun j v hj hv=>h5 j v (by rw[eR]at hj;exact hj) hv) ?_;intro j a v ha hv;obtain⟨b,hb,rfl⟩:=jN ha;exact U (h6 j b v hb hv)
 |arr h0 h1 h2 h3 h4 h5 h6 h7=>
  refine .arr (hi.trans h0) h1 (fun f=>(hF _).1 (h2 f)) (fun f=>⟨fun g=>(h3 f).1 ((hF _).2 g),(h3 f).2⟩) (by rw[eR];exact h4) (fun j v hj hv=>h5 j v (by rw[eR]at hj;exact hj) hv) ?_ h7;intro j a v ha hv;obtain⟨b,hb,rfl⟩:=jN ha;exact U (h6 j b v hb hv)
 |map h0 h1 h2 h3 h4 h5 h6 h7 h8 h9=>
  refine .map (hi.trans h0) h1 (fun f=>(hF _).1 (h2 f)) (fun f g=>h3 f ((hF _).2 g)) (by rw[eR];exact h4) (by rw[eR];exact h5) ?_ ?_ h8 h9
  ·intro j a v ha hv;obtain⟨b,hb,rfl⟩:=jN ha;exact U (h6 j b v hb hv)
  ·intro j a v ha hv;obtain⟨b,hb,rfl⟩:=jN ha;exact U (h7 j b v hb hv)
 |held h0 h1 h2 h3=>exact .held (hi.trans h0) (fun g=>h1 ((hF _).2 g)) h2 h3
 |sit h0 h1 h2=>exact .sit (hi.trans h0) (fun g=>h1 ((hF _).2 g)) h2
 |mit h0 h1 h2 h3 h4 h5 h6 h7 h8 h9 h10 h11=>
  refine .mit (hi.trans h0) (fun g=>h1 ((hF _).2 g)) h2 ((hF _).1 h3) h4 h5 h6 (by rw[eR];exact h7) (by rw[eR];exact h8) ?_ ?_ ?_
  ·intro j a v ha hv;obtain⟨b,hb,rfl⟩:=jN ha;exact U (h9 j b v hb hv)
  ·intro j a v ha hv;obtain⟨b,hb,rfl⟩:=jN ha;exact U (h10 j b v hb hv)
  ·intro k v hc;obtain⟨⟨k0,v0⟩,hc0,e⟩:=dG.1 hc;simp only[bH]at e;obtain⟨rfl,rfl⟩:=e;obtain⟨en,a1,a2,a3,a4⟩:=h11 k0 v0 hc0;exact⟨en,a1,a2,U a3,U a4⟩
theorem ObjOK.down{ob:AObj}{i:Nat}(r:ObjOK X' w h' (σ i) (ob.ren σ))(hF:∀b,X'.F b↔X.F b)(ho:bSb σ h h')(hι:∀(i:Nat) (bo:Nat×Nat),X'.ι (σ i)=some bo→X.ι i=some bo)(hi:X.ι i=X'.ι (σ i)):ObjOK X w h i ob:=by
 have D:∀{a v},RV X' w h' (ren σ a) v→RV X w h a v:=fun r=>r.down (fun b=>(hF b).1) ho hι _ rfl;have L:∀{l:List AV} {j a} {Q:AV→Prop},(∀b,(renL σ l)[j]? = some b→Q b)→l[j]? = some a→Q (ren σ a):=fun hq ha=>hq _ (by rw[jO,ha];rfl);generalize hob:ob.ren σ=ob' at r;cases r with
 |absent h0 hh=>exact .absent (hi.trans h0) (by rw[← AObj.ren_isH (σ:=σ),hob];exact hh)
 |away h0 h1=>
  cases ob<;>simp[AObj.ren]at hob;obtain⟨rfl,rfl⟩:=hob;exact .away (hi.trans h0) h1
 |box h0 h1 h2 h3 h4 h5 h6=>
  cases ob<;>simp[AObj.ren]at hob;obtain⟨rfl,rfl⟩:=hob;rw[eR]at h4;exact .box (hi.trans h0) h1 (fun f=>(hF _).1 (h2 f)) (fun f=>⟨fun g=>(h3 f).1 ((hF _).2 g),(h3 f).2⟩) h4 (fun j v hj hv=>h5 j v (by rw[eR];exact hj) hv) (fun j a v ha hv=>D (h6 j _ v (by rw[jO,ha];rfl) hv))
 |arr h0 h1 h2 h3 h4 h5 h6 h7=>
  cases ob<;>simp[AObj.ren]at hob;obtain⟨rfl,rfl,rfl⟩:=hob;rw[eR]at h4;exact .arr (hi.trans h0) h1 (fun f=>(hF _).1 (h2 f)) (fun f=>⟨fun g=>(h3 f).1 ((hF _).2 g),(h3 f).2⟩) h4 (fun j v hj hv=>h5 j v (by rw[eR];exact hj) hv) (fun j a v ha hv=>D (h6 j _ v (by rw[jO,ha];rfl) hv)) h7
 |map h0 h1 h2 h3 h4 h5 h6 h7 h8 h9=>
  cases ob<;>simp[AObj.ren]at hob;obtain⟨rfl,rfl,rfl⟩:=hob;rw[eR]at h4 h5;exact .map (hi.trans h0) h1 (fun f=>(hF _).1 (h2 f)) (fun f g=>h3 f ((hF _).2 g)) h4 h5 (fun j a v ha hv=>D (h6 j _ v (by rw[jO,ha];rfl) hv)) (fun j a v ha hv=>D (h7 j _ v (by rw[jO,ha];rfl) hv)) h8 h9
 |held h0 h1 h2 h3=>
  cases ob<;>simp[AObj.ren]at hob;obtain⟨rfl,rfl⟩:=hob;exact .held (hi.trans h0) (fun g=>h1 ((hF _).2 g)) h2 h3
 |sit h0 h1 h2=>
  cases ob<;>simp[AObj.ren]at hob;obtain⟨rfl,rfl⟩:=hob;exact .sit (hi.trans h0) (fun g=>h1 ((hF _).2 g)) h2
 |mit h0 h1 h2 h3 h4 h5 h6 h7 h8 h9 h10 h11=>
  cases ob<;>simp[AObj.ren]at hob;obtain⟨rfl,rfl,rfl⟩:=hob;rw[eR]at h7 h8;refine .mit (hi.trans h0) (fun g=>h1 ((hF _).2 g)) h2 ((hF _).1 h3) h4 h5 h6 h7 h8 (fun j a v ha hv=>D (h9 j _ v (by rw[jO,ha];rfl) hv)) (fun j a v ha hv=>D (h10 j _ v (by rw[jO,ha];rfl) hv)) ?_;rintro k v rfl;obtain⟨en,a1,a2,a3,a4⟩:=h11 _ _ rfl;exact⟨en,a1,a2,D a3,D a4⟩
theorem AObj.ren_like{σ:Nat→Nat}{a b:AObj}(h:a.like b):(a.ren σ).like (b.ren σ):=by
 cases a<;>cases b<;>simp[AObj.like,AObj.ren,eR]at h⊢ <;> exact h
end
def emb(is:List Nat)(N:Nat)(i:Nat):Nat:=if i<is.length then is.getD i 0 else N+(i-is.length)
def mW:List AObj→List Nat→List AObj→List AObj
 |h,i::is,o::os=>mW (h.set i o) is os
 |h,_,_=>h
def yQ(h:List AObj)(is:List Nat)(σ:Nat→Nat)(h1:List AObj):List AObj:=mW h is (h1.map (AObj.ren σ))++(h1.drop is.length).map (AObj.ren σ)
theorem qU:∀(is:List Nat) (os:List AObj) (h:List AObj),(mW h is os).length=h.length
 | [],os,h=>by cases os<;>simp[mW]
 |i::is,[],h=>by simp[mW]
 |i::is,o::os,h=>by rw[mW,qU is os,List.length_set]
theorem A6:∀(is:List Nat) (os:List AObj) (h:List AObj) (j:Nat),j∉is→(mW h is os)[j]? = h[j]?
 | [],os,h,j,_=>by cases os<;>simp[mW]
 |i::is,[],h,j,_=>by simp[mW]
 |i::is,o::os,h,j,hj=>by
  simp only[cH,not_or]at hj;rw[mW,A6 is os _ j hj.2,dW (fun e=>hj.1 e.symm)]
theorem aDh:∀(is:List Nat) (os:List AObj) (h:List AObj) (k j:Nat) (o:AObj),is.Nodup→is[k]? = some j→os[k]? = some o→j<h.length→(mW h is os)[j]? = some o
 | [],os,h,k,j,o,_,h1,_,_=>by simp at h1
 |i::is,[],h,k,j,o,_,_,h2,_=>by simp at h2
 |i::is,a::os,h,0,j,o,hn,h1,h2,h3=>by
  simp only[bT,aB]at h1 h2;subst h1 h2;rw[mW,A6 is os _ _ (kT.1 hn).1,jJ h3]
 |i::is,a::os,h,k+1,j,o,hn,h1,h2,h3=>by
  rw[mW];exact aDh is os _ k j o (kT.1 hn).2 (by simpa using h1) (by simpa using h2) (by simpa using h3)
section
variable {P:Program} {G:Glob}
theorem frame{f:FuncId}{A0 A:List AV}{h0 h:List AObj}{K:AV→List AObj→Prop}{is:List Nat}(hG:oR G)(s:ACalls P G f A0 h0 K)(hnd:is.Nodup)(hlen:is.length=h0.length)
 (hobj:∀(i:Nat) (o:AObj),h0[i]? = some o→h[is.getD i 0]? = some (o.ren (emb is h.length))) (hA:A=renL (emb is h.length) A0) :
 ACalls P G f A h (fun r h'=>∃r0 h1,K r0 h1∧h0.length≤h1.length∧r=ren (emb is h.length) r0∧h'=yQ h is (emb is h.length) h1):=by
 subst hA;refine⟨s.1,?_⟩;intro X w vs g hl hr;generalize hσ:emb is h.length=σ at *
 have hlt:∀i,i<is.length→σ i=is.getD i 0:=fun i hi=>by rw[← hσ];simp[emb,hi]
 have hge:∀i,is.length≤i→σ i=h.length+(i-is.length):=fun i hi=>by rw[← hσ];simp[emb,Nat.not_lt.2 hi]
 have hin:∀i,i<is.length→is.getD i 0<h.length:=fun i hi=>by
  have:h0[i]? = some h0[i]:=bL (by omega);exact bP (hobj i _ this)
 have hmem:∀i,i<is.length→is.getD i 0∈is:=fun i hi=>by
  simp only[List.getD,bL hi,gB];exact qK hi
 have hinj:∀i k,i<is.length→k<is.length→is.getD i 0=is.getD k 0→i=k:=fun i k hi hk e=>by
  simp only[List.getD,bL hi,bL hk,gB]at e;exact(List.getElem_inj hnd).1 e
 have hcase:∀j,(∃i,j=σ i)∨(j<h.length∧j∉is):=fun j=>by
  by_cases hj:j∈is
  ·obtain⟨i,hi,rfl⟩:=dC.1 hj;exact .inl ⟨i,by rw[hlt i hi];simp[List.getD,hi]⟩
  ·by_cases hjl:j<h.length
   ·exact .inr ⟨hjl,hj⟩
   ·exact .inl ⟨j-h.length+is.length,by rw[hge _ (by omega)];omega⟩
 let X0:Ctx:=⟨X.F,fun i=>if i<is.length then X.ι (is.getD i 0)else Option.none⟩;have hι0:∀i,i<is.length→X0.ι i=X.ι (is.getD i 0):=fun i hi=>by simp[X0,hi]
 have hι0':∀i,is.length≤i→X0.ι i=Option.none:=fun i hi=>by simp[X0,Nat.not_lt.2 hi]
 have hRO:bSb σ h0 h:=by
  intro i o' ho';by_cases hi:i<is.length
  ·rw[hlt i hi]at ho';have h1:h0[i]? = some h0[i]:=bL (by omega);have h2:=hobj i _ h1;rw[h2]at ho';cases ho';exact⟨_,h1,rfl⟩
  ·rw[hge i (by omega)]at ho';have:=bP ho';omega
 have hdι:∀(i:Nat) (bo:Nat×Nat),X.ι (σ i)=some bo→X0.ι i=some bo:=by
  intro i bo hb;by_cases hi:i<is.length
  ·rw[hι0 i hi,← hlt i hi];exact hb
  ·obtain⟨ob,hob⟩:=g.dom _ _ hb;rw[hge i (by omega)]at hob;have:=bP hob;omega
 have D:∀{a v},RV X w h (ren σ a) v→RV X0 w h0 a v:=fun r=>RV.down (X:=X0) r (fun b hb=>hb) hRO hdι _ rfl
 have g0 : GH G X0 w h0:=by
  refine⟨?_,?_,?_,?_,g.fbnd,fun k a hk=>(g.gl k a hk).pers (hG k a hk) (fun b hb=>hb) (fun _ _=>rfl)⟩
  ·intro i ob hob;have hi:i<is.length:=by have:=bP hob;omega
   have h1:=g.objs _ _ (hobj i ob hob);rw[← hlt i hi]at h1;exact h1.down (fun b=>Iff.rfl) hRO hdι (by rw[hι0 i hi,hlt i hi])
  ·intro i bo hb;by_cases hi:i<is.length
   ·exact⟨_,bL (by omega)⟩
   ·rw[hι0' i (by omega)]at hb;cases hb
  ·intro i k b o o' hb hb';by_cases hi:i<is.length
   ·by_cases hk:k<is.length
    ·rw[hι0 i hi]at hb;rw[hι0 k hk]at hb';exact hinj i k hi hk (g.inj _ _ _ _ _ hb hb')
    ·rw[hι0' k (by omega)]at hb';cases hb'
   ·rw[hι0' i (by omega)]at hb;cases hb
  ·intro i b o hb;by_cases hi:i<is.length
   ·rw[hι0 i hi]at hb;exact g.bnd _ _ _ hb
   ·rw[hι0' i (by omega)]at hb;cases hb
 rw[eR]at hl;refine(s.2 X0 w vs g0 hl (fun j a v ha hv=>D (hr j _ v (by rw[jO,ha];rfl) hv))).mono ?_;rintro e w' ⟨v,r0,h1,X1,rfl,hK,g1,r1,t1⟩;have hle:h0.length≤h1.length:=by
  rcases Nat.eq_zero_or_pos h0.length with hz|hz
  ·omega
  ·obtain⟨o1,ho1,_⟩:=t1.ext.obj (h0.length-1) _ (bL (by omega));have:=bP ho1;omega
 let X':Ctx:=⟨X1.F,fun j=>if j∈is then X1.ι (is.idxOf j)else if j<h.length then X.ι j else X1.ι (j-h.length+is.length)⟩;have hX1:∀i,X'.ι (σ i)=X1.ι i:=by
  intro i;by_cases hi:i<is.length
  ·have hm:=hmem i hi;have hix:is.idxOf (is.getD i 0)=i:=by
    have h2:is.idxOf (is.getD i 0)<is.length:=by rw[List.idxOf_lt_length_iff];exact hm
    refine hinj _ _ h2 hi ?_;generalize is.getD i 0=x at h2;rw[List.getD,bL h2,gB,List.getElem_idxOf]
   simp only[X',hlt i hi,if_pos hm,hix]
  ·have h2:¬h.length+(i-is.length)∈is:=fun hm=>by
    obtain⟨k,hk,e⟩:=dC.1 hm;have:=hin k hk;simp[List.getD,hk]at this;omega
   simp only[X',hge i (by omega),if_neg h2];rw[if_neg (by omega)];congr 1;omega
 have hX2:∀j,j<h.length→j∉is→X'.ι j=X.ι j:=fun j hj hn=>by simp[X',hn,hj]
 have hm1:∀i,(yQ h is σ h1)[σ i]? = (h1[i]?).map (AObj.ren σ):=by
  intro i;unfold yQ;by_cases hi:i<is.length
  ·have h2:=hin i hi;rw[hlt i hi,aG (by rw[qU];exact h2)];have h3:h1[i]? = some h1[i]:=bL (by omega);rw[h3];exact aDh is _ h i _ _ hnd (by simp[List.getD,hi]) (by rw[eV,h3];rfl) h2
  ·rw[hge i (by omega),aR (by rw[qU];omega),qU,eV,eL];congr 2;omega
 have hm2:∀j,j<h.length→j∉is→(yQ h is σ h1)[j]? = h[j]? := fun j hj hn=>by
  unfold yQ;rw[aG (by rw[qU];exact hj),A6 is _ _ _ hn]
 have e:Ext X w h X' w' (yQ h is σ h1):=by
  refine⟨t1.ext.fr,t1.ext.keep,t1.ext.shp,?_⟩;intro id o ho;rcases hcase id with⟨i,rfl⟩|⟨hj,hn⟩
  ·obtain⟨o0,h2,rfl⟩:=hRO i o ho;have hi:i<is.length:=by have:=bP h2;omega
   obtain⟨o1,ho1,c⟩:=t1.ext.obj i o0 h2;refine⟨o1.ren σ,by rw[hm1,ho1];rfl,?_⟩;rcases c with rfl|⟨c1,c2⟩
   ·exact .inl rfl
   ·refine .inr ⟨AObj.ren_like c1,?_⟩;rcases c2 with c2|c2
    ·exact .inl (by rw[hX1,c2,hι0 i hi,hlt i hi])
    ·exact .inr (AObj.ren_mv.trans c2)
  ·exact⟨o,by rw[hm2 id hj hn];exact ho,.inr ⟨AObj.like_refl o,.inl (hX2 id hj hn)⟩⟩
 have ho:∀(i:Nat) (o:AObj),h1[i]? = some o→(yQ h is σ h1)[σ i]? = some (o.ren σ):=fun i o h=>by rw[hm1,h];rfl
 have hfr:∀b,b<w.heap.size→(∀id o,X.ι id≠some (b,o))→∀id o,X0.ι id≠some (b,o):=by
  intro b _ hno id o hb;by_cases hi:id<is.length
  ·rw[hι0 id hi]at hb;exact hno _ _ hb
  ·rw[hι0' id (by omega)]at hb;cases hb
 have hup0:∀id b o,X0.ι id=some (b,o)→∃k,k∈is∧X.ι k=some (b,o):=by
  intro id b o hb;by_cases hi:id<is.length
  ·rw[hι0 id hi]at hb;exact⟨_,hmem id hi,hb⟩
  ·rw[hι0' id (by omega)]at hb;cases hb
 have hg : GH G X' w' (yQ h is σ h1):=by
  refine⟨?_,?_,?_,?_,g1.fbnd,fun k a hk=>(g1.gl k a hk).pers (hG k a hk) (fun b hb=>hb) (fun _ _=>rfl)⟩
  ·intro id ob hob
   rcases hcase id with⟨i,rfl⟩|⟨hj,hn⟩
   ·rw[hm1]at hob;obtain⟨o1,h2,rfl⟩:=dG.1 hob;exact(g1.objs i o1 h2).up (fun b=>Iff.rfl) ho (fun i o _=>hX1 i) (hX1 i)
   ·rw[hm2 id hj hn]at hob
    refine(g.objs id ob hob).mono e (hX2 id hj hn) (fun b o hb=>?_) (fun b o hb hf=>?_)
    ·refine t1.step.frame b (g.bnd _ _ _ hb) (fun id' o' hb'=>?_);obtain⟨k,hk,hk'⟩:=hup0 _ _ _ hb';exact hn (g.inj _ _ _ _ _ hb hk'▸hk)
    ·rcases t1.step.fnew b hf with h2|h2|⟨id0,o0,h2⟩
     ·exact h2
     ·have:=g.bnd _ _ _ hb;omega
     ·obtain⟨k,hk,hk'⟩:=hup0 _ _ _ h2;exact absurd (g.inj _ _ _ _ _ hb hk'▸hk) hn
  ·intro id bo hb;rcases hcase id with⟨i,rfl⟩|⟨hj,hn⟩
   ·rw[hX1]at hb;obtain⟨ob,hob⟩:=g1.dom _ _ hb;exact⟨_,ho i ob hob⟩
   ·rw[hX2 id hj hn]at hb;obtain⟨ob,hob⟩:=g.dom _ _ hb;exact⟨ob,by rw[hm2 id hj hn];exact hob⟩
  ·intro id id' b o o' hb hb';have cross:∀i j,j<h.length→j∉is→X1.ι i=some (b,o)∨X1.ι i=some (b,o')→X.ι j=some (b,o)∨X.ι j=some (b,o')→False:=by
    intro i j hj hn h2 h3;have h4:b<w.heap.size:=by rcases h3 with h3|h3<;>exact g.bnd _ _ _ h3
    have h5:w.heap.size≤b∨∃id0 o0,X0.ι id0=some (b,o0):=by rcases h2 with h2|h2<;>exact t1.step.new _ _ _ h2
    rcases h5 with h5|⟨id0,o0,h5⟩
    ·omega
    ·obtain⟨k,hk,hk'⟩:=hup0 _ _ _ h5;rcases h3 with h3|h3<;>exact hn (g.inj _ _ _ _ _ h3 hk'▸hk)
   rcases hcase id with⟨i,rfl⟩|⟨hj,hn⟩
   ·rw[hX1]at hb;rcases hcase id' with⟨k,rfl⟩|⟨hj',hn'⟩
    ·rw[hX1]at hb';rw[g1.inj _ _ _ _ _ hb hb']
    ·rw[hX2 id' hj' hn']at hb';exact(cross i id' hj' hn' (.inl hb) (.inr hb')).elim
   ·rw[hX2 id hj hn]at hb;rcases hcase id' with⟨k,rfl⟩|⟨hj',hn'⟩
    ·rw[hX1]at hb';exact(cross k id hj hn (.inr hb') (.inl hb)).elim
    ·rw[hX2 id' hj' hn']at hb';exact g.inj _ _ _ _ _ hb hb'
  ·intro id b o hb;rcases hcase id with⟨i,rfl⟩|⟨hj,hn⟩
   ·rw[hX1]at hb;exact g1.bnd _ _ _ hb
   ·rw[hX2 id hj hn]at hb;exact fS (g.bnd _ _ _ hb) t1.step.size
 refine⟨v,ren σ r0,yQ h is σ h1,X',rfl,⟨r0,h1,hK,hle,rfl,rfl⟩,hg,r1.up (fun b hb=>hb) ho (fun i o _=>hX1 i),⟨⟨t1.step.size,t1.step.os,t1.step.tape,t1.step.output,fun b hb hno=>t1.step.frame b hb (hfr b hb hno),?_,?_⟩,e,?_⟩⟩
 ·intro id b o hb;rcases hcase id with⟨i,rfl⟩|⟨hj,hn⟩
  ·rw[hX1]at hb;rcases t1.step.new i b o hb with h2|⟨id0,o0,h2⟩
   ·exact .inl h2
   ·obtain⟨k,_,hk'⟩:=hup0 _ _ _ h2;exact .inr ⟨k,o0,hk'⟩
  ·rw[hX2 id hj hn]at hb;exact .inr ⟨id,o,hb⟩
 ·intro b hb;rcases t1.step.fnew b hb with h2|h2|⟨id0,o0,h2⟩
  ·exact .inl h2
  ·exact .inr (.inl h2)
  ·obtain⟨k,_,hk'⟩:=hup0 _ _ _ h2;exact .inr (.inr ⟨k,o0,hk'⟩)
 ·intro id z hid hz;rcases hcase id with⟨i,rfl⟩|⟨hj,hn⟩
  ·obtain⟨o0,h2,h3⟩:=hRO i _ hid;have hi:i<is.length:=by have:=bP h2;omega
   cases o0<;>simp[AObj.ren]at h3;obtain⟨rfl,rfl⟩:=h3;have:=t1.abs i _ h2 (by rw[hι0 i hi,← hlt i hi];exact hz);rw[hm1,this];rfl
  ·rw[hm2 id hj hn];exact hid
end
section
variable {P:Program} {G:Md} {d:Option Nat} {os:List gA} {K:List AV→List AObj→Prop} {env:List AV} {h:List AObj}
theorem fM{f:FuncId}{A:List AV}{K':AV→List AObj→Prop}(s:ACalls P G f A h K')(k:∀r h',K' r h'→dN P G none os K (iV env d r) h'):tM P G none f A d os K env h:=
 .inl (s.mono k)
theorem bHb{f:FuncId}{A A0:List AV}{cells cells':List AV}{r:AV}(id:Nat)(hG:oR G)(s:ACalls P G f A0 [.box false cells] (fun r0 h1=>r0=r∧∃g,h1=.box false cells'::g))(hp:persL cells=true)(hp':persL cells'=true)(hr:pers r=true)
 (hid:h[id]? = some (.box false cells)) (hA:A=renL (emb [id] h.length) A0) (k:∀g,dN P G none os K (iV env d r) (h.set id (.box false cells')++g)):tM P G none f A d os K env h:=by
 refine fM (frame (is:=[id]) hG s (by simp) rfl (fun i o ho=>?_) hA) ?_
 ·cases i with
  |zero=>
   simp only[bT,aB]at ho;subst ho;simp only[eM,AObj.ren,renL_pers _ _ hp];exact hid
  |succ i=>simp at ho
 ·rintro r' h' ⟨r0,h1,⟨rfl,g,rfl⟩,_,rfl,rfl⟩;rw[yH _ _ hr];simp only[yQ,aK,mW,aQ,cB,dM,aT,bG,AObj.ren,renL_pers _ _ hp'];exact k _
theorem T8{i N:Nat}:emb [i] N 0=i:=rfl
end
@[simp] def rp:Nat→aSc→List aSc→List aSc
 |0,_,l=>l
 |n+1,a,l=>a::rp n a l
attribute [go_sem] rp
theorem zf{p:Prop}[Decidable p](h:¬p):decide p=false:=decide_eq_false h
theorem zt{p:Prop}[Decidable p](h:p):decide p=true:=decide_eq_true h
theorem zda{p:Prop}[Decidable p]:(decide p=true)=p:=decide_eq_true_eq
theorem zdb{p:Prop}[Decidable p]:decide p=false↔¬p:=decide_eq_false_iff_not
theorem zdc{b:Bool}:((!b)=true)=(b=false):=eF b
theorem zdd{b:Bool}:((!b)=false)=(b=true):=Bool.not_eq_false' b
theorem zdz:(∀{p:Prop} [Decidable p],(decide p=true)=p)∧(∀{p:Prop} [Decidable p],decide p=false↔¬p)∧(∀b:Bool,((!b)=true)=(b=false))∧(∀b:Bool,((!b)=false)=(b=true)):=⟨fun{_} _=>zda,fun{_} _=>zdb,fun _=>zdc,fun _=>zdd⟩
abbrev gT:=@bJu
abbrev gF:=@aWw
abbrev gC:=@Y9
theorem eG{P:Program}(hm:P.follows .mixedOrders=true){G:Glob}{f:FuncId}{fn:Func}{c:Code}{ac:kN}{args:List AV}{r:AV}(hf:P.funcs[f]? = some fn)(hG:oR G)
 (h:awx P G ac (fun e env h=>(e=.normal∨e=.ret)∧∃x,R4 P fn.results.toList env h=some x∧Fin h x r) (args++List.replicate (fn.ntmps-args.length) .u) [])
 (hb:fn.body=some c:=by rfl) (hcal:iC P f=true:=by kernel_rfl) (hd:jF false (fun _=>none) c=true:=by kernel_rfl)
 (hs:strip false (fun _=>none) c=some ac:=by(simp only[strip,lI,eS,lH,RX.off,ckF,ckX,zOf,exd,vOf,aD,aC,bD,bC,aF,bA,aM,aF,bS,bY,dR,fT,bB,bI,aJ,aH,dZ,anyPre,Region.binds,aN,aS,aE,if_true,if_false,aX,aU,aI,aO,aZ,aK,aD,aC,List.append_nil];rfl)):Ctr P G f args r:=qV hm hf hb hcal hd hs hG h
theorem bQ{P:Program}(hm:P.follows .mixedOrders=true){G:Glob}{f:FuncId}{fn:Func}{c:Code}{ac:kN}{args:List AV}{r:AV}{rs:List ResultVar}{nt:Nat}{q:Prop}(hf:P.funcs[f]? = some fn)(hG:oR G)(h:q)
 (hb:fn.body=some c:=by rfl) (hcal:iC P f=true:=by kernel_rfl) (hd:jF false (fun _=>none) c=true:=by kernel_rfl)
 (hs:strip false (fun _=>none) c=some ac:=by(simp only[strip,lI,eS,lH,RX.off,ckF,ckX,zOf,exd,vOf,aD,aC,bD,bC,aF,bA,aM,aF,bS,bY,dR,fT,bB,bI,aJ,aH,dZ,anyPre,Region.binds,aN,aS,aE,if_true,if_false,aX,aU,aI,aO,aZ,aK,aD,aC,List.append_nil];rfl))
 (hr:fn.results.toList=rs:=by(conv=>lhs;whnf)) (hn:fn.ntmps=nt:=by(conv=>lhs;whnf))
 (e:awx P G ac (fun e env h=>(e=.normal∨e=.ret)∧∃x,R4 P rs env h=some x∧Fin h x r) (args++List.replicate (nt-args.length) .u) []=q:=by(simp -implicitDefEqProofs (disch:=omega) only[go_sem,List.replicate,↓reduceIte,Nat.reduceAdd,Nat.reduceSub,Nat.reduceMul,Nat.reduceLeDiff,Nat.reduceLT,Nat.reduceEqDiff,Int.reduceNeg,Nat.reduceBEq];rfl)):Ctr P G f args r:=by
 subst hr hn;exact qV hm hf hb hcal hd hs hG (by rw[e];exact h)
theorem aAv:(Region.Mode.any == Region.Mode.gc)=false:=rfl
theorem aAu:(Region.Mode.any == Region.Mode.text)=false:=rfl
theorem iS{P:Program}{rx:Bool}{th:Nat→Option TH}(hm:P.follows .mixedOrders=true){G:Glob}{f:FuncId}{fn:Func}{c:Code}{ac:kN}{args:List AV}{r:AV}(hf:P.funcs[f]? = some fn)(hG:oR G)
 (h:awx P G ac (fun e env h=>(e=.normal∨e=.ret)∧∃x,R4 P fn.results.toList env h=some x∧Fin h x r) (args++List.replicate (fn.ntmps-args.length) .u) [])
 (hb:fn.body=some c:=by rfl) (hcal:iC P f=true:=by kernel_rfl) (hd:jF rx th c=true:=by kernel_rfl)
 (hs:strip rx th c=some ac:=by(simp only[strip,lI,eS,lH,RX.off,ckF,ckX,zOf,exd,vOf,aD,aC,bD,bC,aF,bA,aM,aF,bS,bY,dR,fT,bB,bI,aJ,aH,dZ,anyPre,Region.binds,aN,aS,aE,if_true,if_false,aX,aU,aI,aO,aZ,aK,aD,aC,List.append_nil,aNu,xE,sV,sB,cR,bT,bZ,aF,bD,bC,cU,beq_self_eq_true,fZ,Nat.reduceBEq,rC,qI,rA,kK,aJf,fC,gJ,bS,eZ,aAv,aAu,↓reduceIte,Nat.reduceEqDiff,oX,xI,G6];rfl)):Ctr P G f args r:=qV hm hf hb hcal hd hs hG h
theorem eJ{P:Program}{G:Glob}{rx:Bool}{th:Nat→Option TH}(hm:P.follows .mixedOrders=true){f:FuncId}{fn:Func}{c:Code}{ac:kN}{args:List AV}{h:List AObj}{K:AV→List AObj→Prop}(hf:P.funcs[f]? = some fn)
 (H:awx P G ac (fun e env h'=>(e=.normal∨e=.ret)∧∃x,R4 P fn.results.toList env h'=some x∧K x h') (args++List.replicate (fn.ntmps-args.length) .u) h)
 (hb:fn.body=some c:=by rfl) (hcal:iC P f=true:=by kernel_rfl) (hd:jF rx th c=true:=by kernel_rfl)
 (hs:strip rx th c=some ac:=by(simp only[strip,lI,eS,lH,RX.off,ckF,ckX,zOf,exd,vOf,aD,aC,bD,bC,aF,bA,aM,aF,bS,bY,dR,fT,bB,bI,aJ,aH,dZ,anyPre,Region.binds,aN,aS,aE,if_true,if_false,aX,aU,aI,aO,aZ,aK,aD,aC,List.append_nil,aNu,xE,sV,sB,cR,bT,bZ,aF,bD,bC,cU,beq_self_eq_true,fZ,Nat.reduceBEq,rC,qI,rA,kK,aJf,fC,gJ,bS,eZ,aAv,aAu,↓reduceIte,Nat.reduceEqDiff,oX,xI,G6];rfl)):ACalls P G f args h K:=uZ hm hf hb hcal hd hs H
theorem oO{P:Program}{G:Glob}{rx:Bool}{th:Nat→Option TH}(hm:P.follows .mixedOrders=true){f:FuncId}{fn:Func}{c:Code}{ac:kN}{args:List AV}{h:List AObj}{K:AV→List AObj→Prop}(hf:P.funcs[f]? = some fn)
 (H:awx P G ac (fun e env h'=>(e=.normal∨e=.ret)∧∃x,R4 P fn.results.toList env h'=some x∧K x h') (args++List.replicate (fn.ntmps-args.length) .u) h)
 (hb:fn.body=some c:=by rfl) (hcal:iC P f=true:=by kernel_rfl) (hd:jF rx th c=true:=by kernel_rfl)
 (hs:strip rx th c=some ac:=by(simp only[strip,lI,eS,lH,RX.off,ckF,ckX,zOf,exd,vOf,aD,aC,bD,bC,aF,bA,aM,bS,bY,dR,fT,bB,bI,aJ,aH,dZ,anyPre,Region.binds,aN,aS,aE,if_true,if_false,aX,aU,aI,aO,aZ,aK,List.append_nil,aNu,xE,sV,sB,cR,bT,bZ,cU,beq_self_eq_true,fZ,Nat.reduceBEq,rC,qI,rA,kK,aJf,fC,gJ,eZ,aAv,aAu,↓reduceIte,Nat.reduceEqDiff,mY,oC,oX,splitK,xI,G6,aL,bR,aT,bG,Nat.reduceAdd];rfl)):ACalls P G f args h K:=uZ hm hf hb hcal hd hs H
theorem aPl{P:Program}{rx:Bool}{th:Nat→Option TH}(hm:P.follows .mixedOrders=true){G:Glob}{f:FuncId}{fn:Func}{c:Code}{ac:kN}{args:List AV}{r:AV}(hf:P.funcs[f]? = some fn)(hG:oR G)
 (h:awx P G ac (fun e env h=>(e=.normal∨e=.ret)∧∃x,R4 P fn.results.toList env h=some x∧Fin h x r) (args++List.replicate (fn.ntmps-args.length) .u) [])
 (hb:fn.body=some c:=by rfl) (hcal:iC P f=true:=by kernel_rfl) (hd:jF rx th c=true:=by kernel_rfl)
 (hs:strip rx th c=some ac:=by(simp only[strip,lI,eS,lH,RX.off,ckF,ckX,zOf,exd,vOf,aD,aC,bD,bC,aF,bA,aM,bS,bY,dR,fT,bB,bI,aJ,aH,dZ,anyPre,Region.binds,aN,aS,aE,if_true,if_false,aX,aU,aI,aO,aZ,aK,List.append_nil,aNu,xE,sV,sB,cR,bT,bZ,cU,beq_self_eq_true,fZ,Nat.reduceBEq,rC,qI,rA,kK,aJf,fC,gJ,eZ,aAv,aAu,↓reduceIte,Nat.reduceEqDiff,mY,oC,oX,splitK,xI,G6,aL,bR,aT,bG,Nat.reduceAdd];rfl)):Ctr P G f args r:=qV hm hf hb hcal hd hs hG h
theorem goS{p q:Prop}(h:q)(e:p=q:=by(simp -implicitDefEqProofs (disch:=omega) only[go_sem,↓reduceIte,Nat.reduceAdd,Nat.reduceSub,Nat.reduceMul,Nat.reduceLeDiff,Nat.reduceLT,Nat.reduceEqDiff,Int.reduceNeg,Nat.reduceBEq];rfl)):p:=by rw[e];exact h
structure Cv(q p:Prop):Prop where h:q→p
structure Jn(a b:Prop):Prop where
 l:a
 r:b
structure Hn(c q:Prop):Prop where h:c→q
theorem vS{p:Prop}:Cv p p:=⟨id⟩
theorem vI{c c' p q:Prop}(e:c→c')(k:c→Cv q p):Cv (Hn c' q) (c→p):=⟨fun a x=>(k x).1 (a.1 (e x))⟩
theorem vA{a p q:Prop}(ha:a)(k:Cv q p):Cv q (a∧p):=⟨fun x=>⟨ha,k.1 x⟩⟩
theorem zJ{a b:Prop}(h:a)(k:b):Jn a b:=⟨h,k⟩
theorem zH{c q:Prop}(h:c→q):Hn c q:=⟨h⟩
theorem zA2{a b:Prop}(h:a)(k:b):a∧b:=⟨h,k⟩
theorem vT{P:Program}{G:Glob}{dr:Option DR}{d:Option Nat}{os:List gA}{K:List AV→List AObj→Prop}{env:List AV}{h:List AObj}{op:Op}{x:Bool}{a b:Prop}(h1:Cv a (x=true→fG P G dr op d os K env h))(h2:Cv b (x=false→dN P G dr os K (iV env d (.tup [])) h)):Cv (Jn a b) (nP P G dr (.b x) true op d os K env h):=⟨fun t=>bJu (h1.1 t.1) (h2.1 t.2)⟩
theorem vF{P:Program}{G:Glob}{dr:Option DR}{d:Option Nat}{os:List gA}{K:List AV→List AObj→Prop}{env:List AV}{h:List AObj}{op:Op}{x:Bool}{a b:Prop}(h1:Cv a (x=false→fG P G dr op d os K env h))(h2:Cv b (x=true→dN P G dr os K (iV env d (.tup [])) h)):Cv (Jn a b) (nP P G dr (.b x) false op d os K env h):=⟨fun t=>aWw (h1.1 t.1) (h2.1 t.2)⟩
theorem vC{P:Program}{G:Glob}{Q:Exit→List AV→List AObj→Prop}{env:List AV}{h:List AObj}{c e:kN}{x:Bool}{a b:Prop}(h1:Cv a (x=true→awx P G c Q env h))(h2:Cv b (x=false→awx P G e Q env h)):Cv (Jn a b) (U2 P G (.b x) c e Q env h):=⟨fun t=>Y9 (h1.1 t.1) (h2.1 t.2)⟩
theorem vE{P:Program}{G:Glob}{dr:Option DR}{d:Option Nat}{os:List gA}{K:List AV→List AObj→Prop}{env:List AV}{h:List AObj}{f:FuncId}{A A':List AV}{r:AV}{q:Prop}(s:Ctr P G f A' r)(hA:A.map (gZ dep h)=A')(k:Cv q (dN P G dr os K (iV env d (mat r (gU r h A)).1) (mat r (gU r h A)).2)):Cv q (tM P G dr f A d os K env h):=⟨fun t=>aRf (hA▸s) (k.1 t)⟩
theorem vR{P:Program}{G:Glob}{dr:Option DR}{d:Option Nat}{os:List gA}{K:List AV→List AObj→Prop}{env:List AV}{h:List AObj}{f:FuncId}{A:List AV}{r:AV}{q:Prop}(s:Ctr P G f (A.map (gZ dep h)) r)(k:Cv q (dN P G dr os K (iV env d (mat r (gU r h A)).1) (mat r (gU r h A)).2)):Cv q (tM P G dr f A d os K env h):=⟨fun t=>aRf s (k.1 t)⟩
theorem zg{p q:Prop}(h:q)(e:Cv q p:=by
 simp -implicitDefEqProofs (disch:=omega) only[go_sem,simprocAttr];exact vS):p:=e.1 h
theorem zh{p q x:Prop}(X:x)(h:q)(e:x→Cv q p:=by
 intro X;simp -implicitDefEqProofs (disch:=omega) only[X,go_sem,simprocAttr];exact vS):p:=(e X).1 h
theorem zu{p:Prop}(e:p:=by(simp -implicitDefEqProofs (disch:=omega) only[go_sem,simprocAttr])):p:=e
theorem zv{p x:Prop}(X:x)(e:x→p:=by(intro X;simp -implicitDefEqProofs (disch:=omega) only[X,go_sem,simprocAttr])):p:=e X
theorem zs0{p q:Prop}(h:q)(e:Cv q p:=by
 repeat' first|with_reducible apply vT|with_reducible apply vF|with_reducible apply vC|((with_reducible apply vA);focus omega)|((with_reducible apply vI);(focus(intro hr;(try simp only[zdz]at hr);exact hr));intro hr;have hc:=hr;(try simp only[zdz]at hc);simp -implicitDefEqProofs (disch:=omega) only[hr,go_sem,simprocAttr];(try clear hr))
 any_goals exact vS):p:=e.1 h
theorem zx0{x:Prop}{p q:Prop}(X:x)(h:q)(e:x→Cv q p:=by
 intro X;repeat' first|with_reducible apply vT|with_reducible apply vF|with_reducible apply vC|((with_reducible apply vA);focus omega)|((with_reducible apply vI);(focus(intro hr;(try simp only[zdz]at hr);exact hr));intro hr;have hc:=hr;(try simp only[zdz]at hc);simp -implicitDefEqProofs (disch:=omega) only[hr,X,go_sem,simprocAttr];(try clear hr))
 any_goals exact vS):p:=(e X).1 h
end Go.Vo
