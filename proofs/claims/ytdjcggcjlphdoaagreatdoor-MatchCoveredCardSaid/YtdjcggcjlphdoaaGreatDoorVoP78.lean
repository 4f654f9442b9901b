/-
  The abstract layer, part Z: paths that meet again. It speaks of any program; no condition.
-/
import Derived.Test.YtdjcggcjlphdoaaGreatDoorVoP75
set_option linter.unusedVariables false
set_option linter.unusedSimpArgs false
namespace Go.Vo
section
variable {P:Program} {G:Md} {K K':AV→List AObj→Prop}
theorem qC{x:Option (AV×List AObj)}(hK:∀r h,K r h→K' r h)(o:D4 x K):D4 x K':=by
 cases x with
 |none=>exact o
 |some p=>exact hK _ _ o
theorem aOa{pn:Value→List AObj→Prop}{dr:Bool}{f:FuncId}{A:List AV}{h:List AObj}(hK:∀r h,K r h→K' r h)(k:D8 P G pn dr f A h K):D8 P G pn dr f A h K':=by
 cases dr with
 |true=>obtain⟨r,s,k⟩:=k;exact⟨r,s,hK _ _ k⟩
 |false=>exact k.imp (fun k=>ACalls.mono k hK) id
theorem V5{c:AV}{A B A' B':Prop}(hA:A→A')(hB:B→B')(k:sA c A B):sA c A' B':=by
 cases c<;>simp only[sA]at k ⊢;exact⟨fun h=>hA (k.1 h),fun h=>hB (k.2 h)⟩
theorem aPd{dr:Bool}{env:List AV}{h:List AObj}{c:Call}(hK:∀r h,K r h→K' r h)(a:mR P G dr env h c K):mR P G dr env h c K':=by
 unfold mR at a ⊢;cases hc:c.callee with
 |builtin b=>
  rw[hc]at a;cases b;case append=>
   simp only at a ⊢;split at a
   ·split at a
    ·rename_i hT;rw[if_pos hT];split at a
     ·rename_i hw;rw[if_pos hw];exact qC hK a
     ·rename_i hw;rw[if_neg hw];exact qC hK a
    ·rename_i hT;rw[if_neg hT];split at a
     ·exact qC hK a
     ·exact a.elim
   ·exact a.elim
  all_goals exact qC hK a
 |value fx=>
  rw[hc]at a;simp only at a ⊢;split at a
  ·exact aOa hK a
  ·exact a.elim
 |invoke=>rw[hc]at a;exact a.elim
theorem N7{dr:Bool}{o:Op}{env:List AV}{h:List AObj}(hK:∀r h,K r h→K' r h)(a:fV P G dr o K env h):fV P G dr o K' env h:=by
 cases o;case call c=>exact aPd hK a
 case mapUpdate T m k x=>
  unfold fV at a ⊢;simp only at a ⊢;split at a
  ·rename_i hp;rw[if_pos hp];split at a
   ·exact hK _ _ a
   ·exact a.elim
  ·rename_i hp;rw[if_neg hp];split at a
   ·exact hK _ _ a
   ·exact a.elim
 case range T x=>
  unfold fV at a ⊢;simp only at a ⊢;split at a
  ·exact a.elim
  ·rename_i hd;rw[if_neg hd];split at a
   ·exact hK _ _ a
   ·exact hK _ _ a
   ·exact a.elim
 case next x b=>
  cases b
  ·unfold fV at a ⊢;simp only at a ⊢;split at a
   ·exact a.elim
   ·rename_i hd;rw[if_neg hd];split at a
    ·split at a
     ·exact⟨fun h=>hK _ _ (a.1 h),fun j k v h1 h2=>hK _ _ (a.2 j k v h1 h2)⟩
     ·exact a.elim
    ·exact a.elim
  ·unfold fV at a ⊢;simp only at a ⊢;split at a
   ·exact a.elim
   ·rename_i hd;rw[if_neg hd];split at a
    ·split at a
     ·exact⟨fun h=>hK _ _ (a.1 h),fun c h1=>⟨fun h2=>hK _ _ ((a.2 c h1).1 h2),fun rn k h2 h3 h4 h5=>hK _ _ ((a.2 c h1).2 rn k h2 h3 h4 h5)⟩⟩
     ·exact a.elim
    ·exact a.elim
 case entry x=>
  unfold fV at a ⊢;simp only at a ⊢;split at a
  ·exact a.elim
  ·rename_i hd;rw[if_neg hd];split at a
   ·split at a
    ·exact hK _ _ a
    ·exact a.elim
   ·exact a.elim
 case makeMap T r=>
  cases r with
  |none=>
   unfold fV at a ⊢;cases dr<;>exact hK _ _ a
  |some _=>exact False.elim a
 all_goals first|exact hK _ _ a|exact qC hK a|exact False.elim a|exact a
theorem aTf{T:TypeId}{v:AV}{K K':AV→Prop}(hK:∀r,K r→K' r)(a:bGc P T v K):bGc P T v K':=by
 unfold bGc at a ⊢;split at a
 ·split at a
  ·exact⟨hK _ a.1,hK _ a.2⟩
  ·exact⟨fun h=>hK _ (a.1 h),hK _ a.2⟩
  ·exact a.elim
 ·exact a.elim
theorem aRm{dr:Option DR}{op:Op}{env:List AV}{h:List AObj}(hK:∀r h,K r h→K' r h)(a:oX P G dr op K env h):oX P G dr op K' env h:=by
 unfold oX at a ⊢;split at a
 ·exact aTf (fun r=>hK r h) a
 ·first
   |exact N7 hK a
   |(split at a
     ·split at a
      ·exact hK _ _ a
      ·exact N7 hK a
     ·exact N7 hK a)
theorem aCk{dr:Option DR}{ck:Bool}{op:Op}{env:List AV}{h:List AObj}(hK:∀r h,K r h→K' r h)(a:aNh P G dr ck op K env h):aNh P G dr ck op K' env h:=by
 unfold aNh at a ⊢;split
 ·rename_i T len ps hv;rw[hv]at a;exact qC hK a
 ·rename_i hv;rw[hv]at a;simp only at a ⊢;split
  ·rename_i c N hz;rw[hz]at a;obtain⟨x,h',h1,h2,h3⟩:=a;exact⟨x,h',h1,h2,hK _ _ h3⟩
  ·rename_i hz;rw[hz]at a;exact aRm hK a
theorem fK{dr:Option DR}{K K':List AV→List AObj→Prop}(hK:∀e h,K e h→K' e h):∀{os:List fZ} {env:List AV} {h:List AObj},dM P G dr os K env h→dM P G dr os K' env h
 | [],_,_,a=>hK _ _ a
 |o::os,env,h,a=>by
  rw[dM]at a ⊢;split at a
  ·exact⟨a.1,aCk (fun r h'=>fK hK) a.2⟩
  ·exact V5 (fun a=>⟨a.1,aCk (fun r h'=>fK hK) a.2⟩) (fK hK) a
theorem bOi{c:Code}{Q Q':Exit→List AV→List AObj→Prop}{env:List AV}{h:List AObj}(hQ:∀x e h,Q x e h→Q' x e h)(a:AW P G c Q env h):AW P G c Q' env h:=fun X w ac g r=>
 wp_mono (a X w ac g r) fun e a' w' ⟨env',h',X',k,g',r',t⟩=>⟨env',h',X',by cases e<;>first|exact hQ _ _ _ k|exact k,g',r',t⟩
theorem mW:∀{c:kQ} {Q Q':Exit→List AV→List AObj→Prop} {env:List AV} {h:List AObj},(∀x e h,Q x e h→Q' x e h)→awx P G c Q env h→awx P G c Q' env h
 | .skip,_,_,_,_,hQ,a=>hQ _ _ _ a
 | .region ops,_,_,_,_,hQ,a=>fK (hQ _) a
 | .draw th ops,_,_,_,_,hQ,a=>fK (hQ _) a
 | .seq x y,_,_,_,_,hQ,a=>by
   rw[awx]at a ⊢;refine mW (fun x e h k=>?_) a;cases x;case normal=>exact mW hQ k
   all_goals exact hQ _ _ _ k
 | .raw c,_,_,_,_,hQ,a=>bOi hQ a
 | .cond c x y,_,_,_,_,hQ,a=>V5 (mW hQ) (mW hQ) a
 | .block id c,Q,Q',_,_,hQ,a=>by
   rw[awx]at a ⊢;refine mW (fun x e h k=>?_) a;cases x;case exit i=>
    simp only[C3]at k ⊢;split at k
    ·rename_i hi;rw[if_pos hi];exact hQ _ _ _ k
    ·rename_i hi;rw[if_neg hi];exact hQ _ _ _ k
   all_goals exact hQ _ _ _ k
 | .loop c,_,_,_,_,hQ,a=>by
   obtain⟨S,I,μ,s0,h0,r⟩:=a;refine⟨S,I,μ,s0,h0,fun s env h hI=>mW (fun x e h k=>?_) (r s env h hI)⟩;cases x;case normal=>exact k
   all_goals exact hQ _ _ _ k
 | .exit id,_,_,_,_,hQ,a=>hQ _ _ _ a
 | .ret,_,_,_,_,hQ,a=>hQ _ _ _ a
end
section
variable {P:Program} {G:Glob} {X:Ctx} {w:World} {h:List AObj}
end
def aOi:AV→Bool
 | .e0=>true
 |a=>pers a
def bFn(h:List AObj)(a:AV):List Nat:=eL dep h a
def hsQ(o:Option AObj)(id:Nat)(alt:List Nat):List Nat:=
 match o with
 |some (.arr _ _ cells)=>if cells.all aOi then [id]else alt
 |_=>alt
def bPk(cells:List AV)(alt:List Nat):List Nat:=if cells.all aOi then []else alt
theorem yU{h:List AObj}{a:AV}{k:Nat}(e:aOi a=true):eL k h a=[]:=by
 cases k with
 |zero=>rfl
 |succ k=>
  rw[eL];by_cases hp:pers a=true
  ·rw[if_pos hp]
  ·rw[if_neg hp];cases a with
   |e0=>rfl
   |_=>exact absurd e hp
theorem I4{h:List AObj}{l:List AV}{k:Nat}(e:l.all aOi=true):l.flatMap (eL k h)=[]:=by
 induction l with
 |nil=>rfl
 |cons a l ih=>
  rw[oC,aD]at e;rw[List.flatMap_cons,yU e.1,ih e.2,List.append_nil]
theorem E4{h:List AObj}{id off n:Nat}{t:Bool}:eL dep h (.hs id off n t)=hsQ h[id]? id (bFn h (.hs id off n t)):=by
 cases ho:h[id]? with
 |none=>rfl
 |some o=>
  cases o with
  |arr fz sz cells=>
   simp only[hsQ];split
   ·rename_i e;have e2:((cells.drop off).take (n*sz)).all aOi=true:=bC.2 fun x hx=>bC.1 e x (gK (dI hx));rw[I5];simp only[pers,aI,if_false,aJw,ho,I4 e2,ite_self]
   ·rfl
  |_=>rfl
theorem xA{h:List AObj}{cells:List AV}:eL dep h (.agg cells)=bPk cells (bFn h (.agg cells)):=by
 unfold bPk;split
 ·rename_i e;rw[I5];by_cases hp:pers (.agg cells)=true
  ·rw[if_pos hp]
  ·rw[if_neg hp];simp only[aJw,I4 e,ite_self]
 ·rfl
attribute [go_sem ↓] E4 xA
attribute [go_sem] hsQ bPk aOi oC List.all_nil
end Go.Vo
