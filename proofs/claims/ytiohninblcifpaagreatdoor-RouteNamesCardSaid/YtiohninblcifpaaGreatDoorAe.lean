/- The library's sort by a function, as a function that is handed one row of ours: what the row holds behind it. No program. -/
import Derived.Test.YtiohninblcifpaaGreatDoorAc
import Derived.Test.YtiohninblcifpaaGreatDoorAd
import Derived.Shelf.SlSortCmp.WholeK
import Derived.Shelf.SlSortCmp.NoneTotal
set_option linter.unusedSectionVars false
set_option linter.unusedSimpArgs false
set_option linter.unusedVariables false
namespace Go.AM
open Go.Sort Go.Shelf Go.RowKit Go.Proofs
section
variable [ax] {P:Program} {ρ:Shelf.Ren} {α:Type} [Inhabited α]
theorem Cp{g g':Gh}{w w':World}{H':List af}(h:aK g [] w g' H' w'):∃q os,w'=grow (w.drewN q) os:=by
 have hk:∀k,k<w.heap.size→w'.heap[k]? =w.heap[k]? :=fun k hk=>h.keep k hk dS
 have hz:=h.size;have ht:=h.tape;have ho:=h.os;have hu:=h.output;refine⟨w'.drawn - w.drawn,w'.heap.extract w.heap.size w'.heap.size,?_⟩;have e1:w'.heap=w.heap++w'.heap.extract w.heap.size w'.heap.size:=by
  apply Array.ext_getElem?;intro k;rw[Array.getElem?_append];split
  ·exact hk k ‹_›
  ·grind
 cases w with
 |mk heap tape drawn os output=>
  cases w' with
  |mk heap' tape' drawn' os' output'=>
   simp only at hz ht ho hu e1;obtain⟨ht1,ht2⟩:=ht;subst ht1;subst ho;subst hu;simp only[grow,World.drewN,World.mk.injEq,and_true,true_and];exact⟨e1,by omega⟩
def iR(enc:α→List Value)(x:α):List AVal:=(enc x).map .sc
theorem ET{g:Gh}{w:World}:∀(vs:List Value),RL g w (vs.map .sc) vs
 | []=>by simp[RL]
 |v::vs=>by simp only[List.map_cons,RL,R];exact⟨v,vs,rfl,rfl,ET vs⟩
section
variable (enc:α→List Value) (k:Nat) (hk:∀x,(enc x).length=k) {g:Gh} {w:World}
include hk
theorem Cq{kb:Nat}{c:Array Value}{e:TypeId}(l:List α)(hheap:w.heap[kb]? =some (.cells c e (0,0)))(hr:ez g w c k (l.map (iR enc)) 0):HoldsK enc k w kb 0 l.toArray:=by
 intro j hj;have hj':j<l.length*k:=by simpa using hj
 have k0:0<k:=by
  rcases Nat.eq_zero_or_pos k with h |h; · subst h;simp at hj'
  ·exact h
 have hi:j / k<l.length:=Nat.div_lt_of_lt_mul (by rwa[Nat.mul_comm]at hj')
 have hm:j % k<k:=Nat.mod_lt _ k0;have hl:l[j / k]? =some l[j / k]:=List.getElem?_eq_getElem hi;obtain⟨_,hc⟩:=bR _ _ (j / k) (iR enc l[j / k]) hr (by simp[hl])
 have hv:(enc l[j / k])[j % k]? =some ((enc l[j / k])[j % k]'(by rw[hk];exact hm)):=List.getElem?_eq_getElem _
 obtain⟨y,h1,_,h3⟩:=gW _ _ (j % k) (.sc ((enc l[j / k])[j % k]'(by rw[hk];exact hm))) hc (by simp[iR,hv])
 simp only[R]at h3;subst h3;have hd:j / k*k+j % k=j:=by rw[Nat.mul_comm];exact Nat.div_add_mod j k
 refine⟨?_,by simp[World.frozen?,hheap]⟩
 rw[World.cell?,hheap];simp only[Option.isSome_none,Bool.false_eq_true,if_false];rw[get_flatK _ _ _ _ (by simpa using hj')]
 grind
theorem FQ{c:Array Value}(l:List α)(h1:∀x,∀v∈enc x,v.oneCell'=true)(hc:l.length*k≤c.size):ez g w (putCells id 0 (flatK enc k l.toArray) c) k (l.map (iR enc)) 0:=by
 refine gr _ _ fun j r hj=>?_
 obtain⟨x,hx,rfl⟩:=Option.map_eq_some_iff.1 (by rwa[List.getElem?_map]at hj:(l[j]?).map (iR enc)=some r)
 refine⟨by simp[iR,hk],mZ _ _ fun i a hi=>?_⟩
 obtain⟨v,hv,rfl⟩:=Option.map_eq_some_iff.1 (by grind [iR]:((enc x)[i]?).map AVal.sc=some a)
 have hik:i<k:=by have:=(List.getElem?_eq_some_iff.1 hv).1;rwa[hk]at this
 have hjl:j<l.length:=(List.getElem?_eq_some_iff.1 hx).1;have hlt:j*k+i<l.length*k:=by
  have:=Nat.mul_le_mul_right k (show j+1≤l.length from hjl);rw[Nat.add_mul,Nat.one_mul]at this;omega
 have e1:(j*k+i) / k=j:=(blk_iff k j _ (by omega)).1 ⟨by omega,by omega⟩
 have e2:(j*k+i) % k=i:=by rw[Nat.mod_eq_sub_div_mul,e1];omega
 refine⟨v,?_,h1 x v (List.mem_of_getElem? hv),by simp[R]⟩
 simp only[putCells,Array.getElem?_mapIdx,Nat.zero_add,size_flatK,List.size_toArray];rw[Array.getElem?_eq_getElem (by omega)]
 simp only[Option.map_some,Nat.zero_le,true_and,Nat.sub_zero];rw[if_pos hlt,get_flatK _ _ _ _ (by simpa using hlt),e1,e2]
 grind
theorem BE{kb:Nat}{c:Array Value}{e:TypeId}{l l':List α}{n:Nat}{os:Array Obj}(k0:0<k)(h1:∀x,∀v∈enc x,v.oneCell'=true)(hi:Inv g [.row 0 k (l.map (iR enc))] w)(hrho:g.ai 0 0=some (kb,k))
 (hheap:w.heap[kb]? =some (.cells c e (0,0))) (hl:l.length*k≤c.size) (hlen:l'.length=l.length):
 Inv g [.row 0 k (l'.map (iR enc))] (sortWorldK enc k w kb 0 n l'.toArray os)∧aK g [.row 0 k (l.map (iR enc))] w g [.row 0 k (l'.map (iR enc))] (sortWorldK enc k w kb 0 n l'.toArray os):=by
 have hput:(putRowK enc k (Sort.ahead w n) kb 0 l'.toArray).heap[kb]? =some (.cells (putCells id 0 (flatK enc k l'.toArray) c) e (0,0)):=by
  simp only[putRowK,putRow,mapBlock,heap_ahead,Array.getElem?_modify,if_true,hheap,Option.map_some,onCells]
 have hoth:∀j,j≠kb→(putRowK enc k (Sort.ahead w n) kb 0 l'.toArray).heap[j]? =w.heap[j]? :=fun j hj=>by
  simp only[putRowK,putRow,mapBlock,heap_ahead,Array.getElem?_modify,if_neg (Ne.symm hj)]
 obtain⟨s1,s2⟩:=hi.store (b:=0) (ak:=0) (sz:=k) (k:=kb) (rows:=l.map (iR enc)) (rows':=l'.map (iR enc)) rfl hrho hheap hput (by simp[putCells]) hoth (by simp[putRowK]) rfl ⟨rfl,Nat.le_add_right _ _⟩ rfl
  (FQ enc k hk l' h1 (by rw[hlen];exact hl)) (by simp[putCells,hlen,hl])
 have hos:∀j,j<(putRowK enc k (Sort.ahead w n) kb 0 l'.toArray).heap.size→(sortWorldK enc k w kb 0 n l'.toArray os).heap[j]? =(putRowK enc k (Sort.ahead w n) kb 0 l'.toArray).heap[j]? :=fun j hj=>by
  simp only[sortWorldK,grow,Array.getElem?_append,hj,if_true]
 obtain⟨t1,t2⟩:=s1.frame (w1:=sortWorldK enc k w kb 0 n l'.toArray os) hos (by simp[sortWorldK]) rfl ⟨rfl,Nat.le_refl _⟩ rfl
 exact⟨t1,s2.trans t2⟩
end
theorem Hf{gf:Nat}{enc:α→List Value}{k:Nat}(hk:∀x,(enc x).length=k)(k0:0<k)(h1:∀x,∀v∈enc x,v.oneCell'=true){cf:α→α→Int}(hcmp:∀x y,gG P gf [.agg (iR enc x),.agg (iR enc y)] (.ret (.sc (.int .i64 (cf x y)))))
 {g:Gh} {w:World} {kb:Nat} {c:Array Value} {e:TypeId} {l:List α} (hi:Inv g [.row 0 k (l.map (iR enc))] w) (hrho:g.ai 0 0=some (kb,k))
 (hheap:w.heap[kb]? =some (.cells c e (0,0))) (hl:l.length*k≤c.size):CmpLays P gf #[] enc k cf kb 0 l.length w:=by
 intro m os dk hs x y;obtain⟨i1,_⟩:=BE enc k hk (l':=dk.toList) (n:=m) (os:=os) k0 h1 hi hrho hheap hl (by simpa using hs)
 rw[Array.toArray_toList]at i1;have hb:=Inv.bare i1;have hl2:RL ({ai:=fun _ _=>none,st:=g.st}:Gh) (sortWorldK enc k w kb 0 m dk os) [.agg (iR enc x),.agg (iR enc y)] (#[.agg (enc x).toArray,.agg (enc y).toArray]:Array Value).toList:=by
  simp only[RL,R];exact⟨_,_,rfl,⟨enc x,rfl,h1 x,ET _⟩,_,_,rfl,⟨enc y,rfl,h1 y,ET _⟩,rfl⟩
 rw[Array.append_empty];refine((hcmp x y).2 _ _ _ hb hl2).mono fun e2 w2 ⟨g2,_,hla,he⟩=>?_
 obtain⟨v,rfl,hv⟩:=he;grind [R,Cp]
theorem EU(L:SlLaysF0.n6 P ρ){gf:Nat}{enc:α→List Value}{k:Nat}(hk:∀x,(enc x).length=k)(k0:0<k)(h1:∀x,∀v∈enc x,v.oneCell'=true){cf:α→α→Int}(hO:SWO (ltOf cf))
 (aE:∀w,(isAgg (ρ.t 24)).run P w=.ok true w) (zE:∀w,(Go.sizeOf (ρ.t 24)).run P w=.ok k w) (eg:∀args w,(callFunc gf args).run P w=.ok (.enter gf args) w)
 (hf : ∃ fn c, P.funcs[ρ.f 6]? = some fn ∧ fn.body = some c ∧ fn.name ≠ "runtime.NumGoroutine")
 (hcmp:∀x y,gG P gf [.agg (iR enc x),.agg (iR enc y)] (.ret (.sc (.int .i64 (cf x y))))) (l:List α) (hsz:l.length<4611686018427387904):
 bB P (ρ.f 6) [.sl 0 0 k 0 l.length,.fn (.func gf) [] []] [.row 0 k (l.map (iR enc))] (.ret nothing)
  [.row 0 k ((pdq (ltOf cf) l.toArray 0 l.length (Lib.bitLen l.length) true true).toList.map (iR enc))]:=by
 have hp:=pdq_sorts (ltOf cf) hO l.toArray 0 l.length (Lib.bitLen l.length) true true (Nat.zero_le _) (by simp) (Or.inl rfl)
 have hlen:(pdq (ltOf cf) l.toArray 0 l.length (Lib.bitLen l.length) true true).toList.length=l.length:=by
  have:=hp.1.1;simpa using this
 refine⟨hf,fun g w vs hi hl=>?_⟩
 simp only[RL]at hl;obtain⟨x1,xs,hvs,hx1,x2,xs2,rfl,hx2,rfl⟩:=hl;obtain rfl:vs= #[x1,x2]:=by apply Array.ext';simpa using hvs
 simp only[R,RL]at hx2;obtain⟨va,vb,rfl,rfl,rfl⟩:=hx2;simp only[R]at hx1;rcases hx1 with⟨h0,rfl⟩ |⟨kb,cap,e,s,hrho,rfl,hsh,hcap,hle,hbig⟩
 ·have hl0:l=[]:=List.length_eq_zero_iff.1 h0;subst hl0;refine(AnyF.slices_SortFunc_none L none 0 _ w).mono fun e' w' ⟨he,hw⟩=>?_
  subst he;subst hw;refine⟨g,?_,?_,⟨_,rfl,by simp[R,nothing]⟩⟩
  ·grind
  grind [aK.refl]
 ·obtain⟨kb',c,e',hr1,hheap,hrows,hsize,_,hfree⟩:=hi.row 0 0 k _ rfl hrho;rw[hrho]at hr1;simp only[Option.some.injEq,Prod.mk.injEq,and_true]at hr1;subst hr1;rw[List.length_map]at hsize;have hH:=Cq enc k hk l hheap hrows;have hblk:kb<w.heap.size:=(Array.getElem?_eq_some_iff.1 hheap).1;have hC:=Hf hk k0 h1 hcmp hi hrho hheap hsize;have key:=AnyQ.slices_SortFunc_eq L k aE zE enc hk h1 cf hO gf #[] kb 0 cap l.toArray w eg (by simpa using hC) hH hblk (by simpa using hsz)
  rw[Nat.zero_mul];simp only[List.size_toArray]at key;refine key.mono fun e2 w2 ⟨he,n,os,hw⟩=>?_
  subst he;subst hw;obtain⟨i1,i2⟩:=BE enc k hk (l':=(pdq (ltOf cf) l.toArray 0 l.length (Lib.bitLen l.length) true true).toList) (n:=n) (os:=os) k0 h1 hi hrho hheap hsize hlen;rw[Array.toArray_toList]at i1 i2;exact⟨g,i1,i2,⟨_,rfl,by simp[R,nothing]⟩⟩
end
end Go.AM
