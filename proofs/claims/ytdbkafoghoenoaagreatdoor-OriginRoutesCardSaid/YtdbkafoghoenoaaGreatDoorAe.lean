/- Parts put together. No conditions. -/
import Derived.Test.YtdbkafoghoenoaaGreatDoorAc
import Derived.Test.YtdbkafoghoenoaaGreatDoorAd
import Derived.Shelf.SlSortCmp.WholeK
import Derived.Shelf.SlSortCmp.NoneTotal
set_option linter.unusedSectionVars false
set_option linter.unusedSimpArgs false
set_option linter.unusedVariables false
section
namespace Go.AM
open Go.Sort Go.Shelf Go.RowKit Go.Proofs
section
variable [Globs] {P:Program} {ρ:Shelf.Ren} {α:Type} [Inhabited α]
theorem grown_of_later{g g':Gh}{w w':World}{H':List ABlk}(h:Later g [] w g' H' w'):∃q os,w'=grow (w.drewN q) os:=by
 have hk:∀k,k<w.heap.size→w'.heap[k]? =w.heap[k]? :=fun k hk=>h.keep k hk not_owned_nil
 have hz:=h.size;have ht:=h.tape;have ho:=h.os;have hu:=h.output;refine⟨w'.drawn - w.drawn,w'.heap.extract w.heap.size w'.heap.size,?_⟩;have e1:w'.heap=w.heap++w'.heap.extract w.heap.size w'.heap.size:=by
  apply Array.ext_getElem?;intro k;rw[Array.getElem?_append];split
  ·exact hk k ‹_›
  ·grind
 cases w with
 |mk heap tape drawn os output=>
  cases w' with
  |mk heap' tape' drawn' os' output'=>
   simp only at hz ht ho hu e1;obtain⟨ht1,ht2⟩:=ht;subst ht1;subst ho;subst hu;simp only[grow,World.drewN,World.mk.injEq,and_true,true_and];exact⟨e1,by omega⟩
def encA(enc:α→List Value)(x:α):List AVal:=(enc x).map .sc
theorem RL_sc'{g:Gh}{w:World}:∀(vs:List Value),RL g w (vs.map .sc) vs
 | []=>by simp[RL]
 |v::vs=>by simp only[List.map_cons,RL,R];exact⟨v,vs,rfl,rfl,RL_sc' vs⟩
section
variable (enc:α→List Value) (k:Nat) (hk:∀x,(enc x).length=k) {g:Gh} {w:World}
include hk
theorem holdsK_of_rows{kb:Nat}{c:Array Value}{e:TypeId}(l:List α)(hheap:w.heap[kb]? =some (.cells c e (0,0)))(hr:RowsAt g w c k (l.map (encA enc)) 0):HoldsK enc k w kb 0 l.toArray:=by
 intro j hj;have hj':j<l.length*k:=by simpa using hj
 have k0:0<k:=by
  rcases Nat.eq_zero_or_pos k with h |h; · subst h;simp at hj'
  ·exact h
 have hi:j / k<l.length:=Nat.div_lt_of_lt_mul (by rwa[Nat.mul_comm]at hj')
 have hm:j % k<k:=Nat.mod_lt _ k0;have hl:l[j / k]? =some l[j / k]:=List.getElem?_eq_getElem hi;obtain⟨_,hc⟩:=RowsAt_get _ _ (j / k) (encA enc l[j / k]) hr (by simp[hl])
 have hv:(enc l[j / k])[j % k]? =some ((enc l[j / k])[j % k]'(by rw[hk];exact hm)):=List.getElem?_eq_getElem _
 obtain⟨y,h1,_,h3⟩:=CellsAt_get _ _ (j % k) (.sc ((enc l[j / k])[j % k]'(by rw[hk];exact hm))) hc (by simp[encA,hv])
 simp only[R]at h3;subst h3;have hd:j / k*k+j % k=j:=by rw[Nat.mul_comm];exact Nat.div_add_mod j k
 refine⟨?_,by simp[World.frozen?,hheap]⟩
 rw[World.cell?,hheap];simp only[Option.isSome_none,Bool.false_eq_true,if_false];rw[get_flatK _ _ _ _ (by simpa using hj')]
 grind
theorem rows_of_put{c:Array Value}(l:List α)(h1:∀x,∀v∈enc x,v.oneCell'=true)(hc:l.length*k≤c.size):RowsAt g w (putCells id 0 (flatK enc k l.toArray) c) k (l.map (encA enc)) 0:=by
 refine RowsAt_of _ _ fun j r hj=>?_
 obtain⟨x,hx,rfl⟩:=Option.map_eq_some_iff.1 (by rwa[List.getElem?_map]at hj:(l[j]?).map (encA enc)=some r)
 refine⟨by simp[encA,hk],CellsAt_of _ _ fun i a hi=>?_⟩
 obtain⟨v,hv,rfl⟩:=Option.map_eq_some_iff.1 (by grind [encA]:((enc x)[i]?).map AVal.sc=some a)
 have hik:i<k:=by have:=(List.getElem?_eq_some_iff.1 hv).1;rwa[hk]at this
 have hjl:j<l.length:=(List.getElem?_eq_some_iff.1 hx).1;have hlt:j*k+i<l.length*k:=by
  have:=Nat.mul_le_mul_right k (show j+1≤l.length from hjl);rw[Nat.add_mul,Nat.one_mul]at this;omega
 have e1:(j*k+i) / k=j:=(blk_iff k j _ (by omega)).1 ⟨by omega,by omega⟩
 have e2:(j*k+i) % k=i:=by rw[Nat.mod_eq_sub_div_mul,e1];omega
 refine⟨v,?_,h1 x v (List.mem_of_getElem? hv),by simp[R]⟩
 simp only[putCells,Array.getElem?_mapIdx,Nat.zero_add,size_flatK,List.size_toArray];rw[Array.getElem?_eq_getElem (by omega)]
 simp only[Option.map_some,Nat.zero_le,true_and,Nat.sub_zero];rw[if_pos hlt,get_flatK _ _ _ _ (by simpa using hlt),e1,e2]
 grind
theorem inv_sorted{kb:Nat}{c:Array Value}{e:TypeId}{l l':List α}{n:Nat}{os:Array Obj}(k0:0<k)(h1:∀x,∀v∈enc x,v.oneCell'=true)(hi:Inv g [.row 0 k (l.map (encA enc))] w)(hrho:g.rho 0 0=some (kb,k))
 (hheap:w.heap[kb]? =some (.cells c e (0,0))) (hl:l.length*k≤c.size) (hlen:l'.length=l.length):
 Inv g [.row 0 k (l'.map (encA enc))] (sortWorldK enc k w kb 0 n l'.toArray os)∧Later g [.row 0 k (l.map (encA enc))] w g [.row 0 k (l'.map (encA enc))] (sortWorldK enc k w kb 0 n l'.toArray os):=by
 have hput:(putRowK enc k (Sort.ahead w n) kb 0 l'.toArray).heap[kb]? =some (.cells (putCells id 0 (flatK enc k l'.toArray) c) e (0,0)):=by
  simp only[putRowK,putRow,mapBlock,heap_ahead,Array.getElem?_modify,if_true,hheap,Option.map_some,onCells]
 have hoth:∀j,j≠kb→(putRowK enc k (Sort.ahead w n) kb 0 l'.toArray).heap[j]? =w.heap[j]? :=fun j hj=>by
  simp only[putRowK,putRow,mapBlock,heap_ahead,Array.getElem?_modify,if_neg (Ne.symm hj)]
 obtain⟨s1,s2⟩:=hi.store (b:=0) (ver:=0) (sz:=k) (k:=kb) (rows:=l.map (encA enc)) (rows':=l'.map (encA enc)) rfl hrho hheap hput (by simp[putCells]) hoth (by simp[putRowK]) rfl ⟨rfl,Nat.le_add_right _ _⟩ rfl
  (rows_of_put enc k hk l' h1 (by rw[hlen];exact hl)) (by simp[putCells,hlen,hl])
 have hos:∀j,j<(putRowK enc k (Sort.ahead w n) kb 0 l'.toArray).heap.size→(sortWorldK enc k w kb 0 n l'.toArray os).heap[j]? =(putRowK enc k (Sort.ahead w n) kb 0 l'.toArray).heap[j]? :=fun j hj=>by
  simp only[sortWorldK,grow,Array.getElem?_append,hj,if_true]
 obtain⟨t1,t2⟩:=s1.frame (w1:=sortWorldK enc k w kb 0 n l'.toArray os) hos (by simp[sortWorldK]) rfl ⟨rfl,Nat.le_refl _⟩ rfl
 exact⟨t1,s2.trans t2⟩
end
theorem cmpLays_of{gf:Nat}{enc:α→List Value}{k:Nat}(hk:∀x,(enc x).length=k)(k0:0<k)(h1:∀x,∀v∈enc x,v.oneCell'=true){cf:α→α→Int}(hcmp:∀x y,FnVal P gf [.agg (encA enc x),.agg (encA enc y)] (.ret (.sc (.int .i64 (cf x y)))))
 {g:Gh} {w:World} {kb:Nat} {c:Array Value} {e:TypeId} {l:List α} (hi:Inv g [.row 0 k (l.map (encA enc))] w) (hrho:g.rho 0 0=some (kb,k))
 (hheap:w.heap[kb]? =some (.cells c e (0,0))) (hl:l.length*k≤c.size):CmpLays P gf #[] enc k cf kb 0 l.length w:=by
 intro m os dk hs x y;obtain⟨i1,_⟩:=inv_sorted enc k hk (l':=dk.toList) (n:=m) (os:=os) k0 h1 hi hrho hheap hl (by simpa using hs)
 rw[Array.toArray_toList]at i1;have hb:=Inv.bare i1;have hl2:RL ({rho:=fun _ _=>none,st:=g.st}:Gh) (sortWorldK enc k w kb 0 m dk os) [.agg (encA enc x),.agg (encA enc y)] (#[.agg (enc x).toArray,.agg (enc y).toArray]:Array Value).toList:=by
  simp only[RL,R];exact⟨_,_,rfl,⟨enc x,rfl,h1 x,RL_sc' _⟩,_,_,rfl,⟨enc y,rfl,h1 y,RL_sc' _⟩,rfl⟩
 rw[Array.append_empty];refine((hcmp x y).2 _ _ _ hb hl2).mono fun e2 w2 ⟨g2,_,hla,he⟩=>?_
 obtain⟨v,rfl,hv⟩:=he;grind [R,grown_of_later]
theorem sortFunc_ref(L:SlLaysF0.n6 P ρ){gf:Nat}{enc:α→List Value}{k:Nat}(hk:∀x,(enc x).length=k)(k0:0<k)(h1:∀x,∀v∈enc x,v.oneCell'=true){cf:α→α→Int}(hO:SWO (ltOf cf))
 (aE:∀w,(isAgg (ρ.t 24)).run P w=.ok true w) (zE:∀w,(Go.sizeOf (ρ.t 24)).run P w=.ok k w) (eg:∀args w,(callFunc gf args).run P w=.ok (.enter gf args) w)
 (hf : ∃ fn c, P.funcs[ρ.f 6]? = some fn ∧ fn.body = some c ∧ fn.name ≠ "runtime.NumGoroutine")
 (hcmp:∀x y,FnVal P gf [.agg (encA enc x),.agg (encA enc y)] (.ret (.sc (.int .i64 (cf x y))))) (l:List α) (hsz:l.length<4611686018427387904):
 FnRef P (ρ.f 6) [.sl 0 0 k 0 l.length,.fn (.func gf) [] []] [.row 0 k (l.map (encA enc))] (.ret nothing)
  [.row 0 k ((pdq (ltOf cf) l.toArray 0 l.length (Lib.bitLen l.length) true true).toList.map (encA enc))]:=by
 have hp:=pdq_sorts (ltOf cf) hO l.toArray 0 l.length (Lib.bitLen l.length) true true (Nat.zero_le _) (by simp) (Or.inl rfl)
 have hlen:(pdq (ltOf cf) l.toArray 0 l.length (Lib.bitLen l.length) true true).toList.length=l.length:=by
  have:=hp.1.1;simpa using this
 refine⟨hf,fun g w vs hi hl=>?_⟩
 simp only[RL]at hl;obtain⟨x1,xs,hvs,hx1,x2,xs2,rfl,hx2,rfl⟩:=hl;obtain rfl:vs= #[x1,x2]:=by apply Array.ext';simpa using hvs
 simp only[R,RL]at hx2;obtain⟨va,vb,rfl,rfl,rfl⟩:=hx2;simp only[R]at hx1;rcases hx1 with⟨h0,rfl⟩ |⟨kb,cap,e,s,hrho,rfl,hsh,hcap,hle,hbig⟩
 ·have hl0:l=[]:=List.length_eq_zero_iff.1 h0;subst hl0;refine(AnyF.slices_SortFunc_none L none 0 _ w).mono fun e' w' ⟨he,hw⟩=>?_
  subst he;subst hw;refine⟨g,?_,?_,⟨_,rfl,by simp[R,nothing]⟩⟩
  ·grind
  grind [Later.refl]
 ·obtain⟨kb',c,e',hr1,hheap,hrows,hsize,_,hfree⟩:=hi.row 0 0 k _ rfl hrho;rw[hrho]at hr1;simp only[Option.some.injEq,Prod.mk.injEq,and_true]at hr1;subst hr1;rw[List.length_map]at hsize;have hH:=holdsK_of_rows enc k hk l hheap hrows;have hblk:kb<w.heap.size:=(Array.getElem?_eq_some_iff.1 hheap).1;have hC:=cmpLays_of hk k0 h1 hcmp hi hrho hheap hsize;have key:=AnyQ.slices_SortFunc_eq L k aE zE enc hk h1 cf hO gf #[] kb 0 cap l.toArray w eg (by simpa using hC) hH hblk (by simpa using hsz)
  rw[Nat.zero_mul];simp only[List.size_toArray]at key;refine key.mono fun e2 w2 ⟨he,n,os,hw⟩=>?_
  subst he;subst hw;obtain⟨i1,i2⟩:=inv_sorted enc k hk (l':=(pdq (ltOf cf) l.toArray 0 l.length (Lib.bitLen l.length) true true).toList) (n:=n) (os:=os) k0 h1 hi hrho hheap hsize hlen;rw[Array.toArray_toList]at i1 i2;exact⟨g,i1,i2,⟨_,rfl,by simp[R,nothing]⟩⟩
end
end Go.AM
end
section
namespace Go.AM
open Go.Sort Go.Shelf Go.RowKit Go.Proofs
section
variable [Globs] {P:Program} {ρ:Shelf.Ren}
def RawV(b:Nat):Type:={r:List Value // r.length=b∧∀v∈r,v.oneCell'=true}
theorem RL_get'{g:Gh}{w:World}:∀{cs:List AVal} {vs:List Value} {i:Nat} {a:AVal} {v:Value},RL g w cs vs→cs[i]? =some a→vs[i]? =some v→R g w a v
 | [],_,_,_,_,_,h,_=>by simp at h
 |q::qs,vs,0,_,_,h,h1,h2=>by
  simp only[RL]at h;obtain⟨x,xs,rfl,h3,_⟩:=h;simp at h1 h2;subst h1;subst h2;exact h3
 |q::qs,vs,i+1,_,_,h,h1,h2=>by
  simp only[RL]at h;obtain⟨x,xs,rfl,_,h3⟩:=h;exact RL_get' h3 (by simpa using h1) (by simpa using h2)
theorem RL_take{g:Gh}{w:World}:∀{cs:List AVal} {vs:List Value},RL g w cs vs→∀n,RL g w (cs.take n) (vs.take n)
 | [],vs,h,n=>by simp only[RL]at h;subst h;simp[RL]
 |q::qs,vs,h,0=>by simp[RL]
 |q::qs,vs,h,n+1=>by
  simp only[RL]at h;obtain⟨x,xs,rfl,h3,h4⟩:=h;simp only[List.take_succ_cons,RL];exact⟨x,_,rfl,h3,RL_take h4 n⟩
theorem perm_lift{A B:Type}{d xs:List B}(h:d.Perm xs):∀ps:List (A×B),ps.map Prod.snd=xs→∃qs:List (A×B),qs.map Prod.snd=d∧qs.Perm ps:=by
 induction h with
 |nil=>intro ps h;exact⟨[],rfl,by simpa using h⟩
 |cons x _ ih=>
  intro ps h;cases ps with
  |nil=>simp at h
  |cons p ps=>
   simp only[List.map_cons,List.cons.injEq]at h;obtain⟨qs,h1,h2⟩:=ih ps h.2;exact⟨p::qs,by simp[h1,h.1],h2.cons p⟩
 |swap x y l=>
  intro ps h
  match ps,h with
  |p::q::ps,h=>
   simp only[List.map_cons,List.cons.injEq]at h;exact⟨q::p::ps,by simp[h],.swap p q ps⟩
 |trans _ _ ih1 ih2=>
  intro ps h;obtain⟨qs,h1,h2⟩:=ih2 ps h;obtain⟨rs,h3,h4⟩:=ih1 qs h1;exact⟨rs,h3,h4.trans h2⟩
theorem strict_unique{A:Type}(lt:A→A→Prop)(irr:∀x,¬lt x x)(tr:∀x y z,lt x y→lt y z→lt x z):∀{l m:List A},l.Perm m→l.Pairwise lt→m.Pairwise lt→l=m
 | [],m,h,_,_=>by simpa using h.symm
 |x::xs,m,h,h1,h2=>by
  cases m with
  |nil=>simp at h
  |cons y ys=>
   have hxy:x=y:=by
    have hx:x∈y::ys:=h.subset (by simp)
    have hy:y∈x::xs:=h.symm.subset (by simp)
    rcases List.mem_cons.1 hx with e |hx
    ·exact e
    rcases List.mem_cons.1 hy with e |hy
    ·exact e.symm
    exact absurd (tr _ _ _ ((List.pairwise_cons.1 h1).1 y hy) ((List.pairwise_cons.1 h2).1 x hx)) (irr x)
   subst hxy;rw[strict_unique lt irr tr h.cons_inv (List.pairwise_cons.1 h1).2 (List.pairwise_cons.1 h2).2]
section
variable {K Y:Type} {encK:K→List Value} {key:Y→K} {ra:Y→List AVal} {a b:Nat}
def encY(encK:K→List Value)(key:Y→K)(ra:Y→List AVal)(y:Y):List AVal:=(encK (key y)).map .sc++ra y
def encX(encK:K→List Value)(x:K×RawV b):List Value:=encK x.1++x.2.1
theorem RL_sc_eq{g:Gh}{w:World}:∀{ks vs:List Value},RL g w (ks.map .sc) vs→vs=ks
 | [],vs,h=>by simpa[RL]using h
 |k::ks,vs,h=>by
  simp only[List.map_cons,RL,R]at h;obtain⟨x,xs,rfl,rfl,h⟩:=h;rw[RL_sc_eq h]
theorem pairs_of(ha:∀x,(encK x).length=a)(hra:∀y,(ra y).length=b){g:Gh}{w:World}{c:Array Value}:∀(l:List Y) (o:Nat),RowsAt g w c (a+b) (l.map (encY encK key ra)) o→
 ∃ps:List (Y×(K×RawV b)),ps.map Prod.fst=l∧(∀p∈ps,p.2.1=key p.1∧RL g w (encY encK key ra p.1) (encX encK p.2))∧(∀j (p:Y×(K×RawV b)),ps[j]? =some p→∀i v,(encX encK p.2)[i]? =some v→c[o+j*(a+b)+i]? =some v)
 | [],_,_=>⟨[],rfl,by simp,by simp⟩
 |y::l,o,h=>by
  simp only[List.map_cons,RowsAt]at h;obtain⟨⟨_,h1⟩,h2⟩:=h;obtain⟨ps,e1,e2,e3⟩:=pairs_of ha hra l (o+(a+b)) h2;obtain⟨vs,v1,v2,v3,v4⟩:=RL_of_CellsAt h1;have hl:vs.length=a+b:=by rw[v1];simp[encY,ha,hra]
  have hk:vs.take a=encK (key y):=by
   have:RL g w ((encK (key y)).map .sc) (vs.take a):=by
    have e:(encK (key y)).map AVal.sc=(encY encK key ra y).take a:=by
     unfold encY;rw[List.take_append_of_le_length (by simp[ha]),List.take_of_length_le (by simp[ha])]
    rw[e];exact RL_take v3 a
   exact RL_sc_eq this
  have hv:encK (key y)++vs.drop a=vs:=by rw[← hk,List.take_append_drop]
  refine⟨(y,(key y,⟨vs.drop a,by simp[hl],fun v hv=>v2 v (List.mem_of_mem_drop hv)⟩))::ps,by simp[e1],?_,?_⟩
  ·intro p hp;rcases List.mem_cons.1 hp with rfl |hp
   ·exact⟨rfl,by simp only[encX];rw[hv];exact v3⟩
   ·exact e2 p hp
  ·intro j p hj i v hi;cases j with
   |zero=>
    simp only[List.getElem?_cons_zero,Option.some.injEq]at hj;subst hj;simp only[encX]at hi;rw[hv]at hi;have hil:i<vs.length:=(List.getElem?_eq_some_iff.1 hi).1;rw[Nat.zero_mul,Nat.add_zero,v4 i hil,hi]
   |succ j=>
    have:=e3 j p (by simpa using hj) i v hi
    rw[← this];congr 1;rw[Nat.add_mul];omega
theorem sortRows_ref(L:SlLaysF0.n6 P ρ){gf:Nat}(ha:∀x,(encK x).length=a)(hra:∀y,(ra y).length=b)(k0:0<a+b)(h1:∀x,∀v∈encK x,v.oneCell'=true)[Inhabited (K×RawV b)]{cf:K→K→Int}
 (hO:SWO (ltOf fun x y:K×RawV b=>cf x.1 y.1))
 (aE:∀w,(isAgg (ρ.t 24)).run P w=.ok true w) (zE:∀w,(Go.sizeOf (ρ.t 24)).run P w=.ok (a+b) w) (eg:∀args w,(callFunc gf args).run P w=.ok (.enter gf args) w)
 (hf : ∃ fn c, P.funcs[ρ.f 6]? = some fn ∧ fn.body = some c ∧ fn.name ≠ "runtime.NumGoroutine")
 (hcmp:∀x y:K×RawV b,FnVal P gf [.agg (encA (encX encK) x),.agg (encA (encX encK) y)] (.ret (.sc (.int .i64 (cf x.1 y.1))))) (l l':List Y) (hsz:l.length<4611686018427387904)
 (hirr:∀x,¬cf x x<0) (htr:∀x y z,cf x y<0→cf y z<0→cf x z<0) (htri:∀x y,x∈l→y∈l→¬cf (key x) (key y)<0→¬cf (key y) (key x)<0→x=y)
 (hp:l'.Perm l) (hs:l'.Pairwise fun x y=>cf (key x) (key y)<0):
 FnRef P (ρ.f 6) [.sl 0 0 (a+b) 0 l.length,.fn (.func gf) [] []] [.row 0 (a+b) (l.map (encY encK key ra))] (.ret nothing)
  [.row 0 (a+b) (l'.map (encY encK key ra))]:=by
 refine⟨hf,fun g w vs hi hl=>?_⟩
 simp only[RL]at hl;obtain⟨x1,xs,hvs,hx1,x2,xs2,rfl,hx2,rfl⟩:=hl;obtain rfl:vs= #[x1,x2]:=by apply Array.ext';simpa using hvs
 simp only[R,RL]at hx2;obtain⟨va,vb,rfl,rfl,rfl⟩:=hx2;simp only[R]at hx1;rcases hx1 with⟨h0,rfl⟩ |⟨kb,cap,e,s,hrho,rfl,hsh,hcap,hle,hbig⟩
 ·have hl0:l=[]:=List.length_eq_zero_iff.1 h0;subst hl0;obtain rfl:l'=[]:=by simpa using hp
  refine(AnyF.slices_SortFunc_none L none 0 _ w).mono fun e' w' ⟨he,hw⟩=>?_
  subst he;subst hw;refine⟨g,?_,?_,⟨_,rfl,by simp[R,nothing]⟩⟩
  ·grind
  grind [Later.refl]
 ·obtain⟨kb',c,e',hr1,hheap,hrows,hsize,_,hfree⟩:=hi.row 0 0 (a+b) _ rfl hrho;rw[hrho]at hr1;simp only[Option.some.injEq,Prod.mk.injEq,and_true]at hr1;subst hr1;rw[List.length_map]at hsize;obtain⟨ps,p1,p2,p3⟩:=pairs_of ha hra l 0 hrows;have hpl:ps.length=l.length:=by rw[← p1];simp
  have hk:∀x:K×RawV b,(encX encK x).length=a+b:=fun x=>by simp[encX,ha,x.2.2.1]
  have ho:∀x:K×RawV b,∀v∈encX encK x,v.oneCell'=true:=fun x v hv=>by
   rcases List.mem_append.1 hv with hv |hv
   ·exact h1 _ v hv
   ·exact x.2.2.2 v hv
  let ds:List (K×RawV b):=ps.map Prod.snd
  have hdl:ds.length=l.length:=by simp[ds,hpl]
  have hH:HoldsK (encX encK) (a+b) w kb 0 ds.toArray:=by
   intro j hj;have hj':j<ds.length*(a+b):=by simpa using hj
   have hi':j / (a+b)<ds.length:=Nat.div_lt_of_lt_mul (by rwa[Nat.mul_comm]at hj')
   have hm:j % (a+b)<a+b:=Nat.mod_lt _ k0;have hip:j / (a+b)<ps.length:=by rw[hpl,← hdl];exact hi'
   have hl2:ps[j / (a+b)]? =some ps[j / (a+b)]:=List.getElem?_eq_getElem hip;have hv:(encX encK ps[j / (a+b)].2)[j % (a+b)]? =some ((encX encK ps[j / (a+b)].2)[j % (a+b)]'(by rw[hk];exact hm)):=List.getElem?_eq_getElem _
   have hc:=p3 _ _ hl2 _ _ hv;have hd:j / (a+b)*(a+b)+j % (a+b)=j:=by rw[Nat.mul_comm];exact Nat.div_add_mod j (a+b)
   refine⟨?_,by simp[World.frozen?,hheap]⟩
   rw[World.cell?,hheap];simp only[Option.isSome_none,Bool.false_eq_true,if_false];rw[get_flatK _ _ _ _ (by simpa using hj')]
   have e5:ds.toArray[j / (a+b)]! =ps[j / (a+b)].2:=by
    rw[getElem!_pos _ _ (by simpa using hi')]
    simp[ds]
   grind
  have hblk:kb<w.heap.size:=(Array.getElem?_eq_some_iff.1 hheap).1;have hsize':ds.length*(a+b)≤c.size:=by rw[hdl];exact hsize
  have hinv:∀(qs:List (Y×(K×RawV b))) (n:Nat) (os:Array Obj),qs.length=l.length→(∀p∈qs,RL g w (encY encK key ra p.1) (encX encK p.2))→
   Inv g [.row 0 (a+b) ((qs.map Prod.fst).map (encY encK key ra))] (sortWorldK (encX encK) (a+b) w kb 0 n (qs.map Prod.snd).toArray os)∧Later g [.row 0 (a+b) (l.map (encY encK key ra))] w g [.row 0 (a+b) ((qs.map Prod.fst).map (encY encK key ra))] (sortWorldK (encX encK) (a+b) w kb 0 n (qs.map Prod.snd).toArray os):=by
   intro qs n os hql hq;have hput:(putRowK (encX encK) (a+b) (Sort.ahead w n) kb 0 (qs.map Prod.snd).toArray).heap[kb]? =some (.cells (putCells id 0 (flatK (encX encK) (a+b) (qs.map Prod.snd).toArray) c) e' (0,0)):=by
    simp only[putRowK,putRow,mapBlock,heap_ahead,Array.getElem?_modify,if_true,hheap,Option.map_some,onCells]
   have hoth:∀j,j≠kb→(putRowK (encX encK) (a+b) (Sort.ahead w n) kb 0 (qs.map Prod.snd).toArray).heap[j]? =w.heap[j]? :=fun j hj=>by
    simp only[putRowK,putRow,mapBlock,heap_ahead,Array.getElem?_modify,if_neg (Ne.symm hj)]
   have hrows':RowsAt g w (putCells id 0 (flatK (encX encK) (a+b) (qs.map Prod.snd).toArray) c) (a+b) ((qs.map Prod.fst).map (encY encK key ra)) 0:=by
    refine RowsAt_of _ _ fun j r hj=>?_
    obtain⟨p,hpj,rfl⟩:∃p,qs[j]? =some p∧encY encK key ra p.1=r:=by
     rw[List.map_map,List.getElem?_map]at hj;obtain⟨p,h5,h6⟩:=Option.map_eq_some_iff.1 hj;exact⟨p,h5,h6⟩
    have hjl:j<qs.length:=(List.getElem?_eq_some_iff.1 hpj).1;refine⟨by simp[encY,ha,hra],CellsAt_of _ _ fun i q hi=>?_⟩
    have hik:i<a+b:=by have:=(List.getElem?_eq_some_iff.1 hi).1;simpa[encY,ha,hra]using this
    have hlt:j*(a+b)+i<qs.length*(a+b):=by
     have:=Nat.mul_le_mul_right (a+b) (show j+1≤qs.length from hjl);rw[Nat.add_mul,Nat.one_mul]at this;omega
    have e1:(j*(a+b)+i) / (a+b)=j:=(blk_iff (a+b) j _ (by omega)).1 ⟨by omega,by omega⟩
    have e2:(j*(a+b)+i) % (a+b)=i:=by rw[Nat.mod_eq_sub_div_mul,e1];omega
    have hv:(encX encK p.2)[i]? =some ((encX encK p.2)[i]'(by rw[hk];exact hik)):=List.getElem?_eq_getElem _
    have hpm:p∈qs:=List.mem_of_getElem? hpj;refine⟨_,?_,ho p.2 _ (List.mem_of_getElem? hv),RL_get' (hq p hpm) hi hv⟩;simp only[putCells,Array.getElem?_mapIdx,Nat.zero_add,size_flatK,List.size_toArray,List.length_map];rw[Array.getElem?_eq_getElem (by rw[hql]at hlt;omega)]
    simp only[Option.map_some,Nat.zero_le,true_and,Nat.sub_zero];rw[if_pos hlt,get_flatK _ _ _ _ (by simpa using hlt),e1,e2]
    have e5:(qs.map Prod.snd).toArray[j]! =p.2:=by
     rw[getElem!_pos _ _ (by simpa using hjl)]
     have:=(List.getElem?_eq_some_iff.1 hpj).2;simp[this]
    rw[e5];grind
   obtain⟨s1,s2⟩:=hi.store (b:=0) (ver:=0) (sz:=a+b) (k:=kb) (rows:=l.map (encY encK key ra)) (rows':=(qs.map Prod.fst).map (encY encK key ra)) rfl hrho hheap hput (by simp[putCells]) hoth (by simp[putRowK]) rfl ⟨rfl,Nat.le_add_right _ _⟩ rfl
    hrows' (by simp[putCells,hql,hsize])
   have hos:∀j,j<(putRowK (encX encK) (a+b) (Sort.ahead w n) kb 0 (qs.map Prod.snd).toArray).heap.size→(sortWorldK (encX encK) (a+b) w kb 0 n (qs.map Prod.snd).toArray os).heap[j]? =(putRowK (encX encK) (a+b) (Sort.ahead w n) kb 0 (qs.map Prod.snd).toArray).heap[j]? :=fun j hj=>by
    simp only[sortWorldK,grow,Array.getElem?_append,hj,if_true]
   obtain⟨t1,t2⟩:=s1.frame (w1:=sortWorldK (encX encK) (a+b) w kb 0 n (qs.map Prod.snd).toArray os) hos (by simp[sortWorldK]) rfl ⟨rfl,Nat.le_refl _⟩ rfl
   exact⟨t1,s2.trans t2⟩
  have hraw:RowsAt g w c (a+b) (ds.map (encA (encX encK))) 0:=by
   refine RowsAt_of _ _ fun j r hj=>?_
   obtain⟨p,hpj,rfl⟩:∃p,ps[j]? =some p∧encA (encX encK) p.2=r:=by
    rw[List.map_map,List.getElem?_map]at hj;obtain⟨p,h5,h6⟩:=Option.map_eq_some_iff.1 hj;exact⟨p,h5,h6⟩
   refine⟨by simp[encA,hk],CellsAt_of _ _ fun i q hi=>?_⟩
   obtain⟨v,hv,rfl⟩:=Option.map_eq_some_iff.1 (by grind [encA]:((encX encK p.2)[i]?).map AVal.sc=some q)
   exact⟨v,p3 j p hpj i v hv,ho p.2 v (List.mem_of_getElem? hv),by simp[R]⟩
  have hi':Inv g [.row 0 (a+b) (ds.map (encA (encX encK)))] w:=
   (hi.store (b:=0) (ver:=0) (sz:=a+b) (k:=kb) (rows:=l.map (encY encK key ra)) (rows':=ds.map (encA (encX encK))) rfl hrho hheap hheap rfl (fun _ _=>rfl) rfl rfl ⟨rfl,Nat.le_refl _⟩ rfl hraw (by simp[hsize'])).1
  have hC:=cmpLays_of (cf:=fun x y:K×RawV b=>cf x.1 y.1) hk k0 ho hcmp hi' hrho hheap hsize'
  have key2:=AnyQ.slices_SortFunc_eq L (a+b) aE zE (encX encK) hk ho (fun x y:K×RawV b=>cf x.1 y.1) hO gf #[] kb 0 cap ds.toArray w eg (by simpa using hC) hH hblk (by simpa[hdl]using hsz)
  have hq:=pdq_sorts (ltOf fun x y:K×RawV b=>cf x.1 y.1) hO ds.toArray 0 ds.length (Lib.bitLen ds.length) true true (Nat.zero_le _) (by simp) (Or.inl rfl)
  obtain⟨⟨q1,_,q3⟩,q4⟩:=hq;rw[Nat.zero_mul];simp only[List.size_toArray]at key2;rw[hdl]at key2;refine key2.mono fun e2 w2 ⟨he,n,os,hw⟩=>?_
  subst he;subst hw;rw[hdl]at q1 q3 q4;generalize pdq (ltOf fun x y:K×RawV b=>cf x.1 y.1) ds.toArray 0 l.length (Lib.bitLen l.length) true true=d at q1 q3 q4
  have hds:d.size=l.length:=by rw[q1];simpa using hdl
  have hperm:d.toList.Perm ds:=by
   have e1:d.extract 0 l.length=d:=by rw[← hds];simp
   have e2:ds.toArray.extract 0 l.length=ds.toArray:=by
    have:l.length=ds.toArray.size:=by simpa using hdl.symm
    rw[this];simp
   rw[e1,e2]at q3;simpa using q3
  obtain⟨qs,r1,r2⟩:=perm_lift hperm ps rfl;have hql:qs.length=l.length:=by rw[r2.length_eq,hpl]
  have hqr:∀p∈qs,p.2.1=key p.1∧RL g w (encY encK key ra p.1) (encX encK p.2):=fun p hp=>p2 p (r2.subset hp)
  have hpf:(qs.map Prod.fst).Perm l:=by rw[← p1];exact r2.map _
  have hnd:(qs.map Prod.fst).Nodup:=by
   have:l'.Nodup:=hs.imp fun {x y} h e=>by subst e;exact hirr _ h
   exact(hpf.trans hp.symm).nodup_iff.2 this
  have hsorted:(qs.map Prod.fst).Pairwise fun x y=>cf (key x) (key y)<0:=by
   rw[List.pairwise_iff_getElem];intro i j hi hj hij;simp only[List.length_map]at hi hj;simp only[List.getElem_map];have hi2:i<d.size:=by omega
   have hj2:j<d.size:=by omega
   have hsrt:=q4 i j (Nat.zero_le _) hij (by omega)
   have e:∀(z:Nat) (hz:z<qs.length),d[z]! =qs[z].2:=fun z hz=>by
    have hz':z<d.size:=by omega
    rw[getElem!_pos _ z hz'];have h5:d.toList[z]'(by simpa using hz')=(qs.map Prod.snd)[z]'(by simpa using hz):=by simp only[r1]
    simpa using h5
   rw[e i hi,e j hj]at hsrt;simp only[ltOf,decide_eq_false_iff_not]at hsrt;rw[(hqr _ (List.getElem_mem hi)).1,(hqr _ (List.getElem_mem hj)).1]at hsrt;by_cases hlt:cf (key qs[i].1) (key qs[j].1)<0
   ·exact hlt
   exfalso;have hx:qs[i].1∈l:=hpf.subset (List.mem_map.2 ⟨_,List.getElem_mem hi,rfl⟩);have hy:qs[j].1∈l:=hpf.subset (List.mem_map.2 ⟨_,List.getElem_mem hj,rfl⟩);have heq:=htri _ _ hx hy hlt hsrt;have:=(List.pairwise_iff_getElem.1 hnd) i j (by simpa using hi) (by simpa using hj) hij
   simp only[List.getElem_map]at this;exact this heq
  have hfin:qs.map Prod.fst=l':=strict_unique (fun x y=>cf (key x) (key y)<0) (fun x=>hirr _) (fun x y z=>htr _ _ _) (hpf.trans hp.symm) hsorted hs
  obtain⟨i1,i2⟩:=hinv qs n os hql fun p hp=>(hqr p hp).2
  rw[hfin,r1,Array.toArray_toList]at i1 i2;exact⟨g,i1,i2,⟨_,rfl,by simp[R,nothing]⟩⟩
end
end
end Go.AM
end
