/-
  The abstract layer, part Z: paths that meet again. It speaks of any program; no condition.
-/
import Derived.Test.YtdjcggcjlphdoaaGreatDoorVoP55
set_option linter.unusedVariables false
set_option linter.unusedSimpArgs false
namespace Go.Vo
section
variable {P:Program} {G:Md} {K K':AV→List AObj→Prop}
theorem qU{x:Option (AV×List AObj)}(hK:∀r h,K r h→K' r h)(o:D3 x K):D3 x K':=by
 cases x with
 |none=>exact o
 |some p=>exact hK _ _ o
theorem aNu{pn:Value→List AObj→Prop}{dr:Bool}{f:FuncId}{A:List AV}{h:List AObj}(hK:∀r h,K r h→K' r h)(k:D9 P G pn dr f A h K):D9 P G pn dr f A h K':=by
 cases dr with
 |true=>obtain⟨r,s,k⟩:=k;exact⟨r,s,hK _ _ k⟩
 |false=>exact k.imp (fun k=>ACalls.mono k hK) id
theorem U8{c:AV}{A B A' B':Prop}(hA:A→A')(hB:B→B')(k:sZ c A B):sZ c A' B':=by
 cases c<;>simp only[sZ]at k ⊢;exact⟨fun h=>hA (k.1 h),fun h=>hB (k.2 h)⟩
theorem aPc{dr:Bool}{env:List AV}{h:List AObj}{c:Call}(hK:∀r h,K r h→K' r h)(a:nN P G dr env h c K):nN P G dr env h c K':=by
 unfold nN at a ⊢;cases hc:c.callee with
 |builtin b=>
  rw[hc]at a;cases b;case append=>
   simp only at a ⊢;split at a
   ·split at a
    ·rename_i hT;rw[if_pos hT];split at a
     ·rename_i hw;rw[if_pos hw];exact qU hK a
     ·rename_i hw;rw[if_neg hw];exact qU hK a
    ·rename_i hT;rw[if_neg hT];split at a
     ·exact qU hK a
     ·exact a.elim
   ·exact a.elim
  all_goals exact qU hK a
 |value fx=>
  rw[hc]at a;simp only at a ⊢;split at a
  ·exact aNu hK a
  ·exact a.elim
 |invoke=>rw[hc]at a;exact a.elim
theorem N5{dr:Bool}{o:Op}{env:List AV}{h:List AObj}(hK:∀r h,K r h→K' r h)(a:fH P G dr o K env h):fH P G dr o K' env h:=by
 cases o;case call c=>exact aPc hK a
 case mapUpdate T m k x=>
  unfold fH at a ⊢;simp only at a ⊢;split at a
  ·rename_i hp;rw[if_pos hp];split at a
   ·exact hK _ _ a
   ·exact a.elim
  ·rename_i hp;rw[if_neg hp];split at a
   ·exact hK _ _ a
   ·exact a.elim
 case range T x=>
  unfold fH at a ⊢;simp only at a ⊢;split at a
  ·exact a.elim
  ·rename_i hd;rw[if_neg hd];split at a
   ·exact hK _ _ a
   ·exact hK _ _ a
   ·exact a.elim
 case next x b=>
  cases b
  ·unfold fH at a ⊢;simp only at a ⊢;split at a
   ·exact a.elim
   ·rename_i hd;rw[if_neg hd];split at a
    ·split at a
     ·exact⟨fun h=>hK _ _ (a.1 h),fun j k v h1 h2=>hK _ _ (a.2 j k v h1 h2)⟩
     ·exact a.elim
    ·exact a.elim
  ·unfold fH at a ⊢;simp only at a ⊢;split at a
   ·exact a.elim
   ·rename_i hd;rw[if_neg hd];split at a
    ·split at a
     ·exact⟨fun h=>hK _ _ (a.1 h),fun c h1=>⟨fun h2=>hK _ _ ((a.2 c h1).1 h2),fun rn k h2 h3 h4 h5=>hK _ _ ((a.2 c h1).2 rn k h2 h3 h4 h5)⟩⟩
     ·exact a.elim
    ·exact a.elim
 case entry x=>
  unfold fH at a ⊢;simp only at a ⊢;split at a
  ·exact a.elim
  ·rename_i hd;rw[if_neg hd];split at a
   ·split at a
    ·exact hK _ _ a
    ·exact a.elim
   ·exact a.elim
 case makeMap T r=>
  cases r with
  |none=>
   unfold fH at a ⊢;cases dr<;>exact hK _ _ a
  |some _=>exact False.elim a
 all_goals first|exact hK _ _ a|exact qU hK a|exact False.elim a|exact a
theorem aSl{T:TypeId}{v:AV}{K K':AV→Prop}(hK:∀r,K r→K' r)(a:bEn P T v K):bEn P T v K':=by
 unfold bEn at a ⊢;split at a
 ·split at a
  ·exact⟨hK _ a.1,hK _ a.2⟩
  ·exact⟨fun h=>hK _ (a.1 h),hK _ a.2⟩
  ·exact a.elim
 ·exact a.elim
theorem aQw{dr:Option DR}{op:Op}{env:List AV}{h:List AObj}(hK:∀r h,K r h→K' r h)(a:pG P G dr op K env h):pG P G dr op K' env h:=by
 unfold pG at a ⊢;split at a
 ·exact aSl (fun r=>hK r h) a
 ·first
   |exact N5 hK a
   |(split at a
     ·split at a
      ·exact hK _ _ a
      ·exact N5 hK a
     ·exact N5 hK a)
theorem aCf{dr:Option DR}{ck:Bool}{op:Op}{env:List AV}{h:List AObj}(hK:∀r h,K r h→K' r h)(a:aNd P G dr ck op K env h):aNd P G dr ck op K' env h:=by
 unfold aNd at a ⊢;split
 ·rename_i T len ps hv;rw[hv]at a;exact qU hK a
 ·rename_i hv;rw[hv]at a;simp only at a ⊢;split
  ·rename_i c N hz;rw[hz]at a;obtain⟨x,h',h1,h2,h3⟩:=a;exact⟨x,h',h1,h2,hK _ _ h3⟩
  ·rename_i hz;rw[hz]at a;exact aQw hK a
theorem eV{dr:Option DR}{K K':List AV→List AObj→Prop}(hK:∀e h,K e h→K' e h):∀{os:List fK} {env:List AV} {h:List AObj},dE P G dr os K env h→dE P G dr os K' env h
 | [],_,_,a=>hK _ _ a
 |o::os,env,h,a=>by
  rw[dE]at a ⊢;split at a
  ·exact⟨a.1,aCf (fun r h'=>eV hK) a.2⟩
  ·exact U8 (fun a=>⟨a.1,aCf (fun r h'=>eV hK) a.2⟩) (eV hK) a
theorem bMl{c:Code}{Q Q':Exit→List AV→List AObj→Prop}{env:List AV}{h:List AObj}(hQ:∀x e h,Q x e h→Q' x e h)(a:AW P G c Q env h):AW P G c Q' env h:=fun X w ac g r=>
 wp_mono (a X w ac g r) fun e a' w' ⟨env',h',X',k,g',r',t⟩=>⟨env',h',X',by cases e<;>first|exact hQ _ _ _ k|exact k,g',r',t⟩
theorem nC:∀{c:kV} {Q Q':Exit→List AV→List AObj→Prop} {env:List AV} {h:List AObj},(∀x e h,Q x e h→Q' x e h)→awx P G c Q env h→awx P G c Q' env h
 | .skip,_,_,_,_,hQ,a=>hQ _ _ _ a
 | .region ops,_,_,_,_,hQ,a=>eV (hQ _) a
 | .draw th ops,_,_,_,_,hQ,a=>eV (hQ _) a
 | .seq x y,_,_,_,_,hQ,a=>by
   rw[awx]at a ⊢;refine nC (fun x e h k=>?_) a;cases x;case normal=>exact nC hQ k
   all_goals exact hQ _ _ _ k
 | .raw c,_,_,_,_,hQ,a=>bMl hQ a
 | .cond c x y,_,_,_,_,hQ,a=>U8 (nC hQ) (nC hQ) a
 | .block id c,Q,Q',_,_,hQ,a=>by
   rw[awx]at a ⊢;refine nC (fun x e h k=>?_) a;cases x;case exit i=>
    simp only[C6]at k ⊢;split at k
    ·rename_i hi;rw[if_pos hi];exact hQ _ _ _ k
    ·rename_i hi;rw[if_neg hi];exact hQ _ _ _ k
   all_goals exact hQ _ _ _ k
 | .loop c,_,_,_,_,hQ,a=>by
   obtain⟨S,I,μ,s0,h0,r⟩:=a;refine⟨S,I,μ,s0,h0,fun s env h hI=>nC (fun x e h k=>?_) (r s env h hI)⟩;cases x;case normal=>exact k
   all_goals exact hQ _ _ _ k
 | .exit id,_,_,_,_,hQ,a=>hQ _ _ _ a
 | .ret,_,_,_,_,hQ,a=>hQ _ _ _ a
end
section
variable {P:Program} {G:Glob} {X:Ctx} {w:World} {h:List AObj}
end
def aKw:AV→Bool
 | .e0=>true
 |a=>pers a
def bEc(h:List AObj)(a:AV):List Nat:=eB dep h a
def hsQ(o:Option AObj)(id:Nat)(alt:List Nat):List Nat:=
 match o with
 |some (.arr _ _ cells)=>if cells.all aKw then [id]else alt
 |_=>alt
def bMw(cells:List AV)(alt:List Nat):List Nat:=if cells.all aKw then []else alt
theorem uR{h:List AObj}{a:AV}{k:Nat}(e:aKw a=true):eB k h a=[]:=by
 cases k with
 |zero=>rfl
 |succ k=>
  rw[eB];by_cases hp:pers a=true
  ·rw[if_pos hp]
  ·rw[if_neg hp];cases a with
   |e0=>rfl
   |_=>exact absurd e hp
theorem H7{h:List AObj}{l:List AV}{k:Nat}(e:l.all aKw=true):l.flatMap (eB k h)=[]:=by
 induction l with
 |nil=>rfl
 |cons a l ih=>
  rw[fJ,aB]at e;rw[List.flatMap_cons,uR e.1,ih e.2,List.append_nil]
theorem E6{h:List AObj}{id off n:Nat}{t:Bool}:eB dep h (.hs id off n t)=hsQ h[id]? id (bEc h (.hs id off n t)):=by
 cases ho:h[id]? with
 |none=>rfl
 |some o=>
  cases o with
  |arr fz sz cells=>
   simp only[hsQ];split
   ·rename_i e;have e2:((cells.drop off).take (n*sz)).all aKw=true:=bF.2 fun x hx=>bF.1 e x (iM (dS hx));rw[tO];simp only[pers,aE,if_false,aJf,ho,H7 e2,ite_self]
   ·rfl
  |_=>rfl
theorem tP{h:List AObj}{cells:List AV}:eB dep h (.agg cells)=bMw cells (bEc h (.agg cells)):=by
 unfold bMw;split
 ·rename_i e;rw[tO];by_cases hp:pers (.agg cells)=true
  ·rw[if_pos hp]
  ·rw[if_neg hp];simp only[aJf,H7 e,ite_self]
 ·rfl
attribute [go_sem ↓] E6 tP
attribute [go_sem] hsQ bMw aKw fJ List.all_nil
end Go.Vo
