/-
  The abstract layer, part V: arguments that are read as data, as abstract values. It speaks of any program; no condition.
-/
import Derived.Test.YtdjcggcjlphdoaaGreatDoorVoP15
import Derived.ChangeArms
import Derived.OpenShut
import GoSem.ClaimJoined
import Derived.RowKit3
import Derived.Carry
import Derived.ProofKit
import Derived.Lib.LaidTab
set_option linter.unusedVariables false
set_option linter.unusedSimpArgs false
namespace Go.Vo
def kM(X:Ctx)(w:World)(h:List AObj)(A:List AV)(cs:List Value):Prop:=
 A.length=cs.length∧∀(j:Nat) (a:AV) (v:Value),A[j]? = some a→cs[j]? = some v→RV X w h a v∧v.oneCell'=true
section
variable {H:Type} {enc:TypeId × Value→H} {P:Program} {X:Ctx} {w:World} {h:List AObj} {sp:Nat→Bool} {hd:Bool} {α β:Type} {t:TypeId}
theorem kM.one{a:AV}{v:Value}(r:RV X w h a v)(o:v.oneCell'=true):kM X w h [a] [v]:=by
 refine⟨rfl,fun j x u hx hu=>?_⟩;cases j with
 |zero=>simp at hx hu;subst hx;subst hu;exact⟨r,o⟩
 |succ j=>simp at hx
theorem kM.append{A B:List AV}{cs ds:List Value}(a:kM X w h A cs)(b:kM X w h B ds):kM X w h (A++B) (cs++ds):=by
 refine⟨by rw[List.length_append,List.length_append,a.1,b.1],fun j x u hx hu=>?_⟩;by_cases hj:j<A.length
 ·rw[aG hj]at hx;rw[aG (a.1▸hj)]at hu;exact a.2 j x u hx hu
 ·rw[aR (by omega)]at hx;rw[aR (by rw[← a.1];omega)]at hu;rw[← a.1]at hu;exact b.2 _ x u hx hu
def Rd(enc:TypeId×Value→H)(P:Program)(X:Ctx)(w:World)(h:List AObj)(sp:Nat→Bool)(hd:Bool)(t:TypeId)(e:α→List AV)(Q:α→Prop):Prop:=
 ∀(fuel:Nat) (cs:List Value) (x:DataW H×List MemPlace),DataW.trod enc P w 0 sp hd fuel t cs=some x→(∀n∈x.1.weights P t,n≤reachBytes)→∃a,Q a∧kM X w h (e a) cs
def RdN(m:Nat)(enc:TypeId×Value→H)(P:Program)(X:Ctx)(w:World)(h:List AObj)(sp:Nat→Bool)(hd:Bool)(t:TypeId)(e:α→List AV)(Q:α→Prop):Prop:=
 ∀(fuel:Nat),fuel≤m→∀(cs:List Value) (x:DataW H×List MemPlace),DataW.trod enc P w 0 sp hd fuel t cs=some x→(∀n∈x.1.weights P t,n≤reachBytes)→∃a,Q a∧kM X w h (e a) cs
theorem Rd.n{m:Nat}{e:α→List AV}{Q:α→Prop}(r:Rd enc P X w h sp hd t e Q):RdN m enc P X w h sp hd t e Q:=fun fuel _=>r fuel
theorem Rd.of{e:α→List AV}{Q:α→Prop}(r:∀m,RdN m enc P X w h sp hd t e Q):Rd enc P X w h sp hd t e Q:=fun fuel=>r fuel fuel (bK _)
theorem RdN.map{m:Nat}{e:α→List AV}{Q:α→Prop}{e':β→List AV}{Q':β→Prop}(g:α→β)(r:RdN m enc P X w h sp hd t e Q)(hg:∀a,Q a→Q' (g a)∧e' (g a)=e a):RdN m enc P X w h sp hd t e' Q':=by
 intro fuel hfu cs x hx hw;obtain⟨a,ha,hc⟩:=r fuel hfu cs x hx hw;exact⟨g a,(hg a ha).1,by rw[(hg a ha).2];exact hc⟩
theorem Rd.map{e:α→List AV}{Q:α→Prop}{e':β→List AV}{Q':β→Prop}(g:α→β)(r:Rd enc P X w h sp hd t e Q)(hg:∀a,Q a→Q' (g a)∧e' (g a)=e a):Rd enc P X w h sp hd t e' Q':=by
 intro fuel cs x hx hw;obtain⟨a,ha,hc⟩:=r fuel cs x hx hw;exact⟨g a,(hg a ha).1,by rw[(hg a ha).2];exact hc⟩
theorem aTy(ht:P.underlying t=some .string):Rd enc P X w h sp hd t (fun s:List UInt8=>[.s s]) (fun s=>s.length≤140737488355328):=by
 intro fuel cs x hx hw;obtain⟨s,rfl,rfl,_⟩:=DataW.trod_string ht hx;refine⟨s.data.toList,?_,kM.one ?_ rfl⟩
 ·have:=hw s.data.toList.length (by simp[DataW.weights]);unfold reachBytes at this;omega
 ·have:=RV.s (X:=X) (w:=w) (h:=h) s.data.toList;simpa using this
theorem aDs{k:IntKind}(ht:P.underlying t=some (.int k)):Rd enc P X w h sp hd t (fun n:Int=>[.i k n]) (fun n=>(Lit.int k n).wf=true):=by
 intro fuel cs x hx hw;obtain⟨n,rfl,rfl,hf⟩:=DataW.trod_int ht hx;exact⟨n,hf,kM.one (.i k n) rfl⟩
theorem Q3{p:Nat→α→Prop}:∀(n:Nat),(∀i,i<n→∃a,p i a)→∃l:List α,l.length=n∧∀i a,l[i]? = some a→p i a
 |0,_=>⟨[],rfl,fun i a h=>by simp at h⟩
 |n + 1,hn=>by
  obtain⟨l,hl,hp⟩:=Q3 n (fun i hi=>hn i (by omega));obtain⟨a,ha⟩:=hn n (by omega);refine⟨l++[a],by simp[hl],fun i b hb=>?_⟩;by_cases hi:i<l.length
  ·rw[aG hi]at hb;exact hp i b hb
  ·rw[aR (by omega)]at hb;have h0:i-l.length=0:=by
    have:=bP hb;simp at this;omega
   rw[h0]at hb;simp at hb;subst hb;have:i=n:=by omega
   exact this▸ha
theorem aGm{sO:Nat}{a:Addr}{n:Nat}{cs:List Value}(hc:w.cells? sO a n=some cs):cs.length=n∧∀k,k<n→w.cell? (a.add k)=cs[k]? := by
 unfold World.cells? at hc;split at hc
 ·exact⟨by simpa using mapM_some_length hc,fun k hk=>mapM_some_get hc k k (by simp[hk])⟩
 ·cases hc
theorem bAw{b o n m:Nat}:((⟨b,o,none⟩:Addr).add n).add m=⟨b,o+n+m,none⟩:=by
 unfold Addr.add;by_cases h1:n=0<;>by_cases h2:m=0<;>simp[h1,h2]
theorem aHm{l:List (DataW H)}{d:DataW H}{t:TypeId}{n:Nat}(hd:d∈l)(hn:n∈d.weights P t):n∈DataW.weightsAll P t l:=by
 induction l with
 |nil=>cases hd
 |cons a l ih=>
  simp only[DataW.weightsAll,bM];rcases cH.1 hd with rfl|h
  ·exact .inl hn
  ·exact .inr (ih h)
theorem V6{m:Nat}{e:TypeId}{f:α→List AV}{Q:α→Prop}{sz by_:Nat}(hF:∀b,b<w.heap.size→X.F b)(ht:P.underlying t=some (.slice e))(hs:P.cellsOf e=sz)(hb:P.bytesOf e=by_)(hpos:0<sz)(hf:∀a,(f a).length=sz)
 (he:RdN m enc P X w h sp hd e f Q):RdN (m+1) enc P X w h sp hd t (fun l:List α=>[.sl (l.flatMap f) l.length]) (fun l=>(∀a∈l,Q a)∧l.length*by_≤140737488351232):=by
 intro fuel hfu cs x hx hw;rcases DataW.trod_slice ht hx with⟨rfl,rfl⟩|⟨a,len,cap,elems,rest,n,rfl,rfl,rfl,_,hle,_,hel,hget,_,_⟩
 ·exact⟨[],⟨by simp,by simp⟩,kM.one (.sl0 none 0) rfl⟩
 ·have hwt:(elems.length+rest.length)*by_≤reachBytes:=by
   refine hw _ ?_;simp[DataW.weights,ht,hb]
  have hwe:∀i,i<len→∀y,elems[i]? = some y→∀n∈y.1.weights P e,n≤reachBytes:=by
   intro i _ y hy m hm;refine hw m ?_;have:m∈DataW.weightsAll P e (elems.map (·.1)):=aHm (dS.2 ⟨y,eD hy,rfl⟩) hm;simp[DataW.weights,ht,this]
  have hall:∀i,i<len→∃a',Q a'∧∃cs',w.cells? 0 (a.add (i*sz)) sz=some cs'∧kM X w h (f a') cs':=by
   intro i hi;have h1:=hget i hi;obtain⟨y,hy⟩:∃y,elems[i]? = some y:=⟨_,bL (by omega)⟩;rw[hy,hs,Option.bind_eq_some_iff]at h1;obtain⟨cs',hc,hr⟩:=h1;obtain⟨a',hq,hcr⟩:=he n (by omega) cs' y hr (hwe i hi y hy);exact⟨a',hq,cs',hc,hcr⟩
  obtain⟨l,hl,hp⟩:=Q3 len hall;have hlb:l.length*by_≤140737488351232:=by
   have h1:l.length*by_≤(elems.length+rest.length)*by_:=cN _ (by omega);unfold reachBytes at hwt;omega
  refine⟨l,⟨fun a' ha'=>?_,hlb⟩,kM.one ?_ rfl⟩
  ·obtain⟨i,hi⟩:=cW.1 ha';exact(hp i a' hi).1
  ·by_cases h0:len=0
   ·have:l=[]:=List.eq_nil_of_length_eq_zero (by omega);subst this;subst h0;exact .sl0 _ _
   ·have hcell:∀i k,i<len→k<sz→∃v,w.cell? ((a.add (i*sz)).add k)=some v:=by
     intro i k hi hk;obtain⟨a',ha'⟩:∃a',l[i]? = some a':=⟨_,bL (by omega)⟩;obtain⟨_,cs',hc,hcr⟩:=hp i a' ha';obtain⟨hcl,hcg⟩:=aGm hc;exact⟨cs'[k],by rw[hcg k hk];simp[show k<cs'.length by omega]⟩
    obtain⟨v0,hv0⟩:=hcell 0 0 (by omega) hpos;obtain⟨b,o,spot⟩:=a;have hv1:w.cell? ⟨b,o,spot⟩=some v0:=by simpa[Addr.add]using hv0
    have hspot:spot=none:=by
     unfold World.cell? at hv1;split at hv1
     ·split at hv1
      ·cases hv1
      ·rename_i hh;cases spot with
       |none=>rfl
       |some y=>simp at hh
     ·cases hv1
    subst hspot;obtain⟨c,T,fr,hblk⟩:∃c T fr,w.heap[b]? = some (.cells c T fr):=by
     unfold World.cell? at hv1;split at hv1
     ·rename_i c T fr hh;exact⟨c,T,fr,hh⟩
     ·cases hv1
    have hcv:∀m,w.cell? ⟨b,m,none⟩=c[m]? := by
     intro m;simp[World.cell?,hblk]
    have hlen:(l.flatMap f).length=len*sz:=by rw[sF hf,hl]
    have hlast:o+len*sz≤c.size:=by
     obtain⟨v,hv⟩:=hcell (len-1) (sz-1) (by omega) (by omega);rw[bAw,hcv]at hv;have hlt:o+(len-1)*sz+(sz-1)<c.size:=by
      rw[aY]at hv;exact hv.1
     have:(len-1)*sz+sz=len*sz:=by
      rw[← aKj];congr 1;omega
     omega
    have key:∀(j:Nat) (u:Value),j<len*sz→c[o+j]? = some u→∃av,(l.flatMap f)[j]? = some av∧RV X w h av u∧u.oneCell'=true:=by
     intro j u hj hu;have hi:j / sz<len:=Nat.div_lt_of_lt_mul (by rw[Nat.mul_comm];exact hj);have hk:j % sz<sz:=Nat.mod_lt _ hpos;have hjj:j / sz*sz+j % sz=j:=by rw[Nat.mul_comm];exact Nat.div_add_mod _ _
     obtain⟨a',ha'⟩:∃a',l[j / sz]? = some a':=⟨_,bL (by omega)⟩;obtain⟨_,cs',hc,hcr⟩:=hp _ a' ha';obtain⟨hcl,hcg⟩:=aGm hc;have h1:=hcg _ hk;rw[bAw,hcv,show o+j / sz*sz+j % sz=o+j by omega,hu]at h1;obtain⟨av,hav⟩:∃av,(f a')[j % sz]? = some av:=⟨_,bL (by rw[hf];exact hk)⟩;have h2:=aMy hf l (j / sz) hk;rw[hjj,ha']at h2;exact⟨av,by rw[h2];exact hav,hcr.2 _ _ _ hav h1.symm⟩
    have hbF:X.F b:=hF b (by
     rw[aY]at hblk;exact hblk.1)
    rw[hl];refine .sl hbF hblk (by omega) hle ?_ ?_
    ·intro j u hj hu;obtain⟨_,_,_,ho⟩:=key j u (by omega) hu;exact ho
    ·intro j av u hav hu;obtain⟨av',h1,h2,_⟩:=key j u (by have:=bP hav;omega) hu;rw[hav]at h1;cases h1;exact h2
theorem aDr{m:Nat}{e:TypeId}{f:α→List AV}{Q:α→Prop}{sz by_:Nat}(hF:∀b,b<w.heap.size→X.F b)(ht:P.underlying t=some (.slice e))(hs:P.cellsOf e=sz)(hb:P.bytesOf e=by_)(hpos:0<sz)(hf:∀a,(f a).length=sz)
 (he:RdN m enc P X w h sp hd e f Q):RdN (m+1) enc P X w h sp hd t (fun l:List α=>[.sl (l.flatMap f) l.length]) (fun l=>(∀a∈l,Q a)∧l.length*by_≤140737488355328):=(V6 hF ht hs hb hpos hf he).map id (fun l hq=>⟨⟨hq.1,jT hq.2 (by decide)⟩,rfl⟩)
theorem aTz{e:TypeId}{f:α→List AV}{Q:α→Prop}{sz by_:Nat}(hF:∀b,b<w.heap.size→X.F b)(ht:P.underlying t=some (.slice e))(hs:P.cellsOf e=sz)(hb:P.bytesOf e=by_)(hpos:0<sz)(hf:∀a,(f a).length=sz)
 (he:Rd enc P X w h sp hd e f Q):Rd enc P X w h sp hd t (fun l:List α=>[.sl (l.flatMap f) l.length]) (fun l=>(∀a∈l,Q a)∧l.length*by_≤140737488351232):=
 fun fuel cs x hx hw=>V6 hF ht hs hb hpos hf (he.n (m:=fuel)) fuel (by omega) cs x hx hw
theorem H4{e:TypeId}{f:α→List AV}{Q:α→Prop}{sz by_:Nat}(hF:∀b,b<w.heap.size→X.F b)(ht:P.underlying t=some (.slice e))(hs:P.cellsOf e=sz)(hb:P.bytesOf e=by_)(hpos:0<sz)(hf:∀a,(f a).length=sz)
 (he:Rd enc P X w h sp hd e f Q):Rd enc P X w h sp hd t (fun l:List α=>[.sl (l.flatMap f) l.length]) (fun l=>(∀a∈l,Q a)∧l.length*by_≤140737488355328):=
 fun fuel cs x hx hw=>aDr hF ht hs hb hpos hf (he.n (m:=fuel)) fuel (by omega) cs x hx hw
def cBw(m:Nat)(enc:TypeId×Value→H)(P:Program)(X:Ctx)(w:World)(h:List AObj)(sp:Nat→Bool)(hd:Bool)(N k:Nat)(fs:List Field)(e:α→List AV)(Q:α→Prop):Prop:=
 ∀(fuel:Nat),fuel≤m→∀(cs:List Value) (xs:List (DataW H×List MemPlace)),cs.length=N→xs.length=fs.length→(∀(i:Nat) (f:Field),fs[i]? = some f→DataW.trod enc P w 0 sp hd fuel f.type ((cs.drop f.offset).take (P.cellsOf f.type))=xs[i]?) →
  (∀n∈DataW.weightsEach P (fs.map (·.type)) (xs.map (·.1)),n≤reachBytes)→∃a,Q a∧kM X w h (e a) (cs.drop k)
theorem bCz{m N k:Nat}(hk:N≤k):cBw m enc P X w h sp hd N k [] (fun _:Unit=>[]) (fun _=>True):=by
 intro fuel _ cs xs hcs _ _ _;refine⟨(),trivial,?_⟩;rw[cV (by omega)];exact⟨rfl,fun j a v ha=>by simp at ha⟩
theorem qW{m N k k' sz:Nat}{f:Field}{fs:List Field}{e:α→List AV}{Q:α→Prop}{e':β→List AV}{Q':β→Prop}(ho:f.offset=k)(hs:P.cellsOf f.type=sz)(hk:k+sz=k')(hle:k'≤N)(r:RdN m enc P X w h sp hd f.type e Q)(rs:cBw m enc P X w h sp hd N k' fs e' Q') :
 cBw m enc P X w h sp hd N k (f::fs) (fun p:α×β=>e p.1++e' p.2) (fun p=>Q p.1∧Q' p.2):=by
 intro fuel hfu cs xs hcs hxs hget hw;cases xs with
 |nil=>simp at hxs
 |cons x xs=>
  have h0:=hget 0 f rfl;rw[ho,hs]at h0;obtain⟨a,ha,hc⟩:=r fuel hfu _ x h0 (fun n hn=>hw n (by simp[DataW.weightsEach,hn]));obtain⟨b,hb,hc'⟩:=rs fuel hfu cs xs hcs (by simpa using hxs) (fun i f' hf'=>hget (i+1) f' (by simpa using hf')) (fun n hn=>hw n (by simp[DataW.weightsEach];exact .inr (by simpa using hn)));refine⟨(a,b),⟨ha,hb⟩,?_⟩;have h1:cs.drop k=(cs.drop k).take sz++cs.drop k':=by
   rw[← hk,← pV,cI]
  rw[h1];exact hc.append hc'
theorem aPu{m:Nat}{fs:Array Field}{N:Nat}{e:α→List AV}{Q:α→Prop}(ht:P.underlying t=some (.struct fs))(hN:P.cellsOf t=N)(r:cBw m enc P X w h sp hd N 0 fs.toList e Q):RdN (m+1) enc P X w h sp hd t e Q:=by
 intro fuel hfu cs x hx hw;obtain⟨xs,n,rfl,rfl,hcs,hxs,hget⟩:=DataW.trod_struct ht hx;obtain⟨a,ha,hc⟩:=r n (by omega) cs xs (by omega) (by simpa using hxs) (fun i f hf=>hget i f (by simpa using hf)) (fun m' hm=>hw m' (by simpa[DataW.weights,ht]using hm));exact⟨a,ha,by simpa using hc⟩
def RdF(enc:TypeId×Value→H)(P:Program)(X:Ctx)(w:World)(h:List AObj)(sp:Nat→Bool)(hd:Bool)(N k:Nat)(fs:List Field)(e:α→List AV)(Q:α→Prop):Prop:=
 ∀(fuel:Nat) (cs:List Value) (xs:List (DataW H×List MemPlace)),cs.length=N→xs.length=fs.length→(∀(i:Nat) (f:Field),fs[i]? = some f→DataW.trod enc P w 0 sp hd fuel f.type ((cs.drop f.offset).take (P.cellsOf f.type))=xs[i]?) →
  (∀n∈DataW.weightsEach P (fs.map (·.type)) (xs.map (·.1)),n≤reachBytes)→∃a,Q a∧kM X w h (e a) (cs.drop k)
theorem M3{N k:Nat}(hk:N≤k):RdF enc P X w h sp hd N k [] (fun _:Unit=>[]) (fun _=>True):=by
 intro fuel cs xs hcs _ _ _;refine⟨(),trivial,?_⟩;rw[cV (by omega)];exact⟨rfl,fun j a v ha=>by simp at ha⟩
theorem iY{N k k' sz:Nat}{f:Field}{fs:List Field}{e:α→List AV}{Q:α→Prop}{e':β→List AV}{Q':β→Prop}(ho:f.offset=k)(hs:P.cellsOf f.type=sz)(hk:k+sz=k')(hle:k'≤N)(r:Rd enc P X w h sp hd f.type e Q)(rs:RdF enc P X w h sp hd N k' fs e' Q') :
 RdF enc P X w h sp hd N k (f::fs) (fun p:α×β=>e p.1++e' p.2) (fun p=>Q p.1∧Q' p.2):=by
 intro fuel cs xs hcs hxs hget hw;cases xs with
 |nil=>simp at hxs
 |cons x xs=>
  have h0:=hget 0 f rfl;rw[ho,hs]at h0;obtain⟨a,ha,hc⟩:=r fuel _ x h0 (fun n hn=>hw n (by simp[DataW.weightsEach,hn]));obtain⟨b,hb,hc'⟩:=rs fuel cs xs hcs (by simpa using hxs) (fun i f' hf'=>hget (i+1) f' (by simpa using hf')) (fun n hn=>hw n (by simp[DataW.weightsEach];exact .inr (by simpa using hn)));refine⟨(a,b),⟨ha,hb⟩,?_⟩;have h1:cs.drop k=(cs.drop k).take sz++cs.drop k':=by
   rw[← hk,← pV,cI]
  rw[h1];exact hc.append hc'
theorem uE{fs:Array Field}{N:Nat}{e:α→List AV}{Q:α→Prop}(ht:P.underlying t=some (.struct fs))(hN:P.cellsOf t=N)(r:RdF enc P X w h sp hd N 0 fs.toList e Q):Rd enc P X w h sp hd t e Q:=by
 intro fuel cs x hx hw;obtain⟨xs,n,rfl,rfl,hcs,hxs,hget⟩:=DataW.trod_struct ht hx;obtain⟨a,ha,hc⟩:=r n cs xs (by omega) (by simpa using hxs) (fun i f hf=>hget i f (by simpa using hf)) (fun m hm=>hw m (by simpa[DataW.weights,ht]using hm));exact⟨a,ha,by simpa using hc⟩
theorem bAg{e:α→List AV}{Q:α→Prop}{v:Value}{d:DataW H}{p:List MemPlace}(hv:∃cs,v=.agg cs)(hT:DataW.Trod enc P w 0 sp hd t v d p)(hw:∀n∈d.weights P t,n≤reachBytes)(R:Rd enc P X w h sp hd t e Q):∃a,Q a∧RV X w h (.agg (e a)) v:=by
 obtain⟨cs,rfl⟩:=hv;obtain⟨fuel,hx⟩:=hT;obtain⟨a,ha,hl,hc⟩:=R fuel _ (d,p) hx hw;have e1:(Value.agg cs).cells=cs:=rfl;rw[e1]at hl hc;refine⟨a,ha,.agg (by simpa using hl) ?_ ?_⟩
 ·intro j v hv;obtain⟨av,hav⟩:∃av,(e a)[j]? = some av:=⟨_,bL (by
   rw[hl];rw[aY]at hv;simpa using hv.1)⟩
  exact(hc j av v hav (by simpa using hv)).2
 ·intro j av v hav hv;exact(hc j av v hav (by simpa using hv)).1
end
open Go.ChangeShapes Go.RowKit
theorem J2.below{W W':World}(g:J2 W W'):Below W.heap.size W W':=⟨g.os,g.tape,g.output,g.size,fun k hk=>g.old k hk⟩
theorem J2.keptBut{W W':World}(g:J2 W W')(may:MemPlace→Prop):W.keptBut W' may:=by
 refine⟨g.os,g.output,fun i hi=>?_⟩;rw[g.old i hi];cases h:W.heap[i]? with
 |none=>rfl
 |some o=>
  cases o with
  |cells c t fr=>exact⟨rfl,rfl,rfl,fun _ _=>rfl⟩
  |map es clock=>exact .inr ⟨rfl,rfl⟩
  |_=>rfl
theorem xY{H:Type}{enc:TypeId×Value→H}{P:Program}(hl:laidOutB P=true){W W':World}{sp:Nat→Bool}(g:J2 W W'):∀{ts:List TypeId} {vs:List Value} {ds:List (DataW H)} {ps:List MemPlace},
 (∀t∈ts,P.readableRec t=true∧t<P.types.size)→DataW.TrodAll enc P W 0 (fun _=>true) true ts vs ds ps→(∀p∈ps,p.block<W.heap.size)→(∀p∈ps,sp p.block=true)→DataW.TrodAll enc P W' 0 sp true ts vs ds ps
 | [],[],[],_,_,h,_,_=>h
 |t::ts,v::vs,d::ds,_,ht,⟨p,q,h1,h2,e⟩,hlt,hs=>by
  refine⟨p,q,?_,?_,e⟩
  ·exact WideElems.Trod_stays hl (ht t (by simp)).1 (ht t (by simp)).2 h1 (fun x hx=>g.below.same (hlt x (by rw[e];exact dK _ hx))) (fun x hx=>hs x (by rw[e];exact dK _ hx))
  ·exact xY hl g (fun t ht'=>ht t (by simp[ht'])) h2 (fun x hx=>hlt x (by rw[e];exact eO _ hx)) (fun x hx=>hs x (by rw[e];exact eO _ hx))
theorem aUo{H:Type}{enc:TypeId×Value→H}{P:Program}{f:Func}{s:ChangeSpec}{apart fresh handsOn again:Bool}{W W':World}{args:Array Value}{ds gs:List (DataW H)}{before:List MemPlace}{tb:TypeId}
 (hl:laidOutB P=true) (ht:∀t∈f.params.toList,P.readableRec t=true∧t<P.types.size) (hr:f.resultTypes = #[tb]) (htb:P.underlying tb=some .bool) (hv:s.vars=[])
 (hW:DataW.Whole enc P f.params.toList s.vars apart W args.toList ds gs before) (h1:(s.fn H (ds++gs)).results=[.lit (.bool true)]) (h2:(s.fn H (ds++gs)).args=ds) (h3:(s.fn H (ds++gs)).vars=[]) (g:J2 W W') :
 s.post enc P f apart fresh handsOn again W args (.bool true) W':=by
 have hlt:=hW.lt;have hW':=hW;obtain⟨pa,pv,hA,hV,hps,hz,hn⟩:=hW;rw[hv]at hV;have hgs:gs=[]∧pv=[]:=by
  cases gs with
  |nil=>exact⟨rfl,hV⟩
  |cons a l=>exact hV.elim
 obtain⟨rfl,rfl⟩:=hgs;have hpa:before=pa:=by rw[hps,List.append_nil]
 subst hpa;have hargs:∀sp:Nat→Bool,(∀p∈before,sp p.block=true)→DataW.TrodAll enc P W' 0 sp true f.params.toList args.toList ds before:=fun sp hsp=>xY hl g ht hA hlt hsp;have hres:∀(b:Nat) (sp:Nat→Bool) (hd:Bool),DataW.TrodAll enc P W' b sp hd f.resultTypes.toList ((Value.bool true).resultList f.resultTypes.size) [.lit (.bool true)] []:=by
  intro b sp hd;rw[hr];exact trodAll_cons_mk (shut_bool htb true) rfl
 have hold:∀p∈before,(fun b=>decide (b<W.heap.size)) p.block=true:=fun p hp=>by simpa using hlt p hp
 refine⟨ds,[],before,[],before,[],hW',?_,?_,?_,World.keptBut_mono (fun p hp=>⟨hp,.inr (.inl hp)⟩) (g.keptBut (· ∈ before)),fun _=>?_⟩
 ·rw[h1];exact hres _ _ _
 ·rw[h2];exact hargs _ hold
 ·rw[h3,hv];rfl
 ·refine⟨ok_one hr rfl (okWide_bool_mk htb true),[.lit (.bool true)]++ds,[],([]++before)++[],⟨[]++before,[],?_,?_,rfl,?_,?_⟩,?_⟩
  ·exact trodAll_append (hargs _ (fun _ _=>rfl)) (hres _ _ _)
  ·rw[hv];rfl
  ·intro b off hp;have hp':MemPlace.cell b off∈before:=by simpa using hp
   have:=hz b off (by rw[hps];simpa using hp');unfold World.frozen? at this ⊢;rw[g.old b (hlt _ hp')];exact this
  ·intro ha;have:=hn ha;rw[hps]at this;simpa using this
  ·intro p hp _;rw[hps];simpa using hp
theorem aYk{P:Program}{G:Glob}{f:FuncId}{A:List AV}(c:Ctr P G f A (.b true)){W:World}{vs:Array Value}(hG:∀k a,G k=some a→GRel (.none fun b=>b<W.heap.size) W [] k a)(hl:A.length=vs.size)
 (hA:∀(j:Nat) (a:AV) (v:Value),A[j]? = some a→vs[j]? = some v→RV (.none fun b=>b<W.heap.size) W [] a v):Calls P f vs W fun e w'=>e=.returned (.bool true)∧J2 W w':=by
 refine(c.2.2 (fun b=>b<W.heap.size) W vs (fun _ h=>h) hG hl hA).mono ?_;rintro e w' ⟨v,F',bs,he,hgr,_,_,_,hRR,_⟩;obtain⟨_,hr⟩:=hRR;cases hr with
 |b=>exact⟨he,hgr⟩
 |dead hr _ _=>simp[AV.refs]at hr
theorem bMe{P:Program}{W:World}{name:String}{k:IntKind}{zs:List Int}{g:Nat}(hg:P.globalNamed name=some g)(h:Lib.TabIs P W name k zs)(hpos:0<zs.length):RV (.none fun b=>b<W.heap.size) W [] (.box (zs.map (.i k)) 0) (.pointer (some ⟨g,0,Option.none⟩)):=by
 have hc:∀i,i<zs.length→W.cell? ⟨g,i,none⟩=some (.int k (zs.getD i 0)):=fun i hi=>h.cell hg i hi;have h0:=hc 0 hpos;obtain⟨c,T,fr,hblk⟩:∃c T fr,W.heap[g]? = some (.cells c T fr):=by
  unfold World.cell? at h0;split at h0
  ·rename_i c T fr hh;exact⟨c,T,fr,hh⟩
  ·cases h0
 have hcv:∀m,W.cell? ⟨g,m,none⟩=c[m]? := by
  intro m;simp[World.cell?,hblk]
 have hsz:zs.length≤c.size:=by
  have:=hc (zs.length-1) (by omega);rw[hcv,aY]at this;obtain⟨h1,_⟩:=this;omega
 refine .box (off:=0) (o:=0) ?_ hblk (by simpa using hsz) ?_ ?_
 ·rw[aY]at hblk;exact hblk.1
 ·intro j v hj hv;have hj':j<zs.length:=by simpa using hj
  have h1:=hc j hj';rw[hcv]at h1;rw[dM]at hv;rw[hv]at h1;cases h1;rfl
 ·intro j a v ha hv;have hj':j<zs.length:=by have:=bP ha;simpa using this
  have h1:=hc j hj';rw[hcv]at h1;rw[dM]at hv;rw[hv]at h1;cases h1;simp only[eV,dG]at ha;obtain⟨z,hz,rfl⟩:=ha;have:zs.getD j 0=z:=by simp[List.getD,hz]
  rw[this];exact .i k z
theorem aTb{P:Program}{W:World}{name:String}{k:IntKind}{zs:List Int}{g:Nat}(hg:P.globalNamed name=some g)(h:Lib.TabIs P W name k zs)(hpos:0<zs.length):GRel (.none fun b=>b<W.heap.size) W [] g (.box (zs.map (.i k)) 0):=by
 refine⟨bMe hg h hpos,fun cells off e=>?_⟩;simp only[AV.box.injEq]at e;obtain⟨rfl,rfl⟩:=e;unfold Lib.TabIs World.var? at h;rw[hg]at h;simp only[xP]at h;split at h
 ·rename_i cs T fr hh;refine⟨lt_of_block hh,cs,T,fr,hh,?_⟩;rw[fR h];simp
 ·cases h
end Go.Vo
