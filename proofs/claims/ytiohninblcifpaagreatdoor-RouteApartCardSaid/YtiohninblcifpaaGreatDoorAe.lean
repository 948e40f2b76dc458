/- Parts put together. No conditions. -/
import Derived.Test.YtiohninblcifpaaGreatDoorAd
import Derived.Sort.AssemblyPlain
import Derived.Shelf.SlicesE.Compact
import Derived.Test.YtiohninblcifpaaGreatDoorAc
import Derived.Shelf.SlSortCmp.WholeK
import Derived.Shelf.SlSortCmp.NoneTotal
set_option linter.unusedSectionVars false
set_option linter.unusedSimpArgs false
set_option linter.unusedVariables false
section
namespace Go.Proofs
open Go.Shelf Go.RowKit Go.Lib Go.Sort
variable {P:Program} {ρ:Ren}
set_option maxHeartbeats 1000000 in
theorem Kf(L:SlLaysE.n43 P ρ)(a:Option Addr)(cap:Nat)(w:World):
 Calls P (ρ.f 43) #[.slice a 0 cap] w fun e w'=>e=.returned (.slice a 0 cap)∧w'=w:=by
 have mixed:=L.mixed;have t0:=L.t0;have a0:=L.a0;have z0:=L.z0;have v0:=L.v0;have t3:=L.t3;have a3:=L.a3;have z3:=L.z3;have v3:=L.v3;have t4:=L.t4;have a4:=L.a4;have z4:=L.z4;have v4:=L.v4;have t22:=L.t22;have a22:=L.a22;have z22:=L.z22;have v22:=L.v22;have a23:=L.a23;have z23:=L.z23;obtain⟨_,_,FG⟩:=L.f43
 go_enter FG,SlBodyN.n43_ntmps ρ
 go_wp2
 go_ret
 exact⟨rfl,rfl⟩
end Go.Proofs
namespace Go.AM
open Go.Sort Go.Shelf Go.RowKit Go.Proofs Go.Lib
variable [aF] {P:Program} {ρ:Shelf.Ren} {α:Type} [Inhabited α] [DecidableEq α]
def zy(enc:α→Value)(x:α):List AVal:=[.sc (enc x)]
theorem Hr{enc:α→Value}{g:Gh}{w:World}{kb:Nat}{c:Array Value}{e:TypeId}(l:List α)(hheap:w.heap[kb]? =some (.cells c e (0,0)))(hr:gr g w c 1 (l.map (zy enc)) 0):Holds enc w kb 0 l.toArray:=by
 intro j hj;have hj':j<l.length:=by simpa using hj
 have hl:l[j]? =some l[j]:=List.getElem?_eq_getElem hj';obtain⟨_,hc⟩:=cH _ _ j (zy enc l[j]) hr (by simp[hl])
 obtain⟨y,h1,_,h3⟩:=kV _ _ 0 (.sc (enc l[j])) hc (by simp[zy])
 simp only[R]at h3;subst h3;refine⟨?_,by simp[World.frozen?,hheap]⟩
 rw[World.cell?,hheap];grind
theorem Kg{enc:α→Value}{g:Gh}{w:World}{c:Array Value}(l tl:List α)(h1:∀x,(enc x).oneCell'=true)(hc:l.length+tl.length≤c.size):gr g w (putCells enc 0 (l++tl).toArray c) 1 (l.map (zy enc)) 0:=by
 refine iT _ _ fun j r hj=>?_
 obtain⟨x,hx,rfl⟩:=Option.map_eq_some_iff.1 (by rwa[List.getElem?_map]at hj:(l[j]?).map (zy enc)=some r)
 refine⟨by simp[zy],pK _ _ fun i a hi=>?_⟩
 have hjl:j<l.length:=(List.getElem?_eq_some_iff.1 hx).1;have hi0:i=0∧a=.sc (enc x):=by
  unfold zy at hi;cases i with
  |zero=>simpa using hi.symm
  |succ i=>simp at hi
 obtain⟨rfl,rfl⟩:=hi0;refine⟨enc x,?_,h1 x,by simp[R]⟩
 simp only[putCells,Array.getElem?_mapIdx,Nat.zero_add,Nat.mul_one,Nat.add_zero];grind
theorem Lw(l:List α):(compact l).length≤l.length:=by
 unfold compact compactUpTo;grind
theorem Lx(L:SlLaysE.n43 P ρ)(enc:α→Value)(hO:OneCell enc)(heq:EqlAt P (ρ.t 23) enc (fun x y=>decide (x=y)))(hne:NeqAt P (ρ.t 23) enc (fun x y=>decide (x=y)))(zr:α)(v23:∀w,(zeroValue (ρ.t 23)).run P w=.ok (enc zr) w)
 (h1 : ∀ x, (enc x).oneCell' = true) (hf : ∃ fn c, P.funcs[ρ.f 43]? = some fn ∧ fn.body = some c ∧ fn.name ≠ "runtime.NumGoroutine") (l : List α) :
 bO P (ρ.f 43) [.sl 0 0 1 0 l.length] [.row 0 1 (l.map (zy enc))] (.ret (.sl 0 0 1 0 (compact l).length)) [.row 0 1 ((compact l).map (zy enc))]:=by
 have hcl:=Lw l;refine⟨hf,fun g w vs hi hl=>?_⟩
 simp only[RL]at hl;obtain⟨x1,xs,hvs,hx1,rfl⟩:=hl;obtain rfl:vs= #[x1]:=by apply Array.ext';simpa using hvs
 simp only[R]at hx1;rcases hx1 with⟨h0,rfl⟩ |⟨kb,cap,e,s,hrho,rfl,hsh,hcap,hle,hbig⟩
 ·have hl0:l=[]:=List.length_eq_zero_iff.1 h0;subst hl0;refine(Kf L none 0 w).mono fun e' w' ⟨he,hw⟩=>?_
  subst he;subst hw;exact⟨g,hi,aQ.refl _ _ _,⟨_,rfl,by grind [R]⟩⟩
 ·obtain⟨kb',c,e',hr1,hheap,hrows,hsize,_,hfree⟩:=hi.row 0 0 1 _ rfl hrho;rw[hrho]at hr1;simp only[Option.some.injEq,Prod.mk.injEq,and_true]at hr1;subst hr1;rw[List.length_map,Nat.mul_one]at hsize;have hH:=Hr l hheap hrows;have key:=AnyE.slices_Compact L enc hO heq hne zr v23 kb 0 cap l.toArray w hH (by simp;omega) (by simpa using hle)
  simp only[List.size_toArray]at key;rw[Nat.zero_mul];have hz:(compact l).length+(List.replicate (l.length - (compact l).length) zr).length=l.length:=by rw[List.length_replicate];omega
  refine key.mono fun e2 w2 ⟨he,q,hw⟩=>?_
  subst he;subst hw;have hput:(putRow enc (Sort.ahead w q) kb 0 (compact l++List.replicate (l.length - (compact l).length) zr).toArray).heap[kb]? =some (.cells (putCells enc 0 (compact l++List.replicate (l.length - (compact l).length) zr).toArray c) e' (0,0)):=by
   simp only[putRow,mapBlock,heap_ahead,Array.getElem?_modify,if_true,hheap,Option.map_some,onCells]
  have hoth:∀j,j≠kb→(putRow enc (Sort.ahead w q) kb 0 (compact l++List.replicate (l.length - (compact l).length) zr).toArray).heap[j]? =w.heap[j]? :=fun j hj=>by
   simp only[putRow,mapBlock,heap_ahead,Array.getElem?_modify,if_neg (Ne.symm hj)]
  obtain⟨s1,s2⟩:=hi.store (b:=0) (ak:=0) (sz:=1) (k:=kb) (rows:=l.map (zy enc)) (rows':=(compact l).map (zy enc)) rfl hrho hheap hput (by simp[putCells]) hoth (by simp[putRow,mapBlock]) rfl ⟨rfl,Nat.le_add_right _ _⟩ rfl
   (Kg _ _ h1 (by rw[hz];exact hsize)) (by simp[putCells];omega)
  have hshp:(putRow enc (Sort.ahead w q) kb 0 (compact l++List.replicate (l.length - (compact l).length) zr).toArray).shape? kb=some (e,s):=s2.ext.shape _ _ hsh;exact⟨g,s1,s2,⟨_,rfl,by simp only[R];exact .inr ⟨kb,cap,e,s,hrho,by rw[Nat.zero_mul];rfl,hshp,hcap,by omega,hbig⟩⟩⟩
end Go.AM
end
section
namespace Go.AM
open Go.Sort Go.Shelf Go.RowKit Go.Proofs
section
variable [aF] {P:Program} {ρ:Shelf.Ren} {α:Type} [Inhabited α]
theorem Hs{g g':Gh}{w w':World}{H':List af}(h:aQ g [] w g' H' w'):∃q os,w'=grow (w.drewN q) os:=by
 have hk:∀k,k<w.heap.size→w'.heap[k]? =w.heap[k]? :=fun k hk=>h.keep k hk fF
 have hz:=h.size;have ht:=h.tape;have ho:=h.os;have hu:=h.output;refine⟨w'.drawn - w.drawn,w'.heap.extract w.heap.size w'.heap.size,?_⟩;have e1:w'.heap=w.heap++w'.heap.extract w.heap.size w'.heap.size:=by
  apply Array.ext_getElem?;intro k;rw[Array.getElem?_append];split
  ·exact hk k ‹_›
  ·grind
 cases w with
 |mk heap tape drawn os output=>
  cases w' with
  |mk heap' tape' drawn' os' output'=>
   simp only at hz ht ho hu e1;obtain⟨ht1,ht2⟩:=ht;subst ht1;subst ho;subst hu;simp only[grow,World.drewN,World.mk.injEq,and_true,true_and];exact⟨e1,by omega⟩
def mF(enc:α→List Value)(x:α):List AVal:=(enc x).map .sc
theorem Kh{g:Gh}{w:World}:∀(vs:List Value),RL g w (vs.map .sc) vs
 | []=>by simp[RL]
 |v::vs=>by simp only[List.map_cons,RL,R];exact⟨v,vs,rfl,rfl,Kh vs⟩
section
variable (enc:α→List Value) (k:Nat) (hk:∀x,(enc x).length=k) {g:Gh} {w:World}
include hk
theorem Ht{kb:Nat}{c:Array Value}{e:TypeId}(l:List α)(hheap:w.heap[kb]? =some (.cells c e (0,0)))(hr:gr g w c k (l.map (mF enc)) 0):HoldsK enc k w kb 0 l.toArray:=by
 intro j hj;have hj':j<l.length*k:=by simpa using hj
 have k0:0<k:=by
  rcases Nat.eq_zero_or_pos k with h |h; · subst h;simp at hj'
  ·exact h
 have hi:j / k<l.length:=Nat.div_lt_of_lt_mul (by rwa[Nat.mul_comm]at hj')
 have hm:j % k<k:=Nat.mod_lt _ k0;have hl:l[j / k]? =some l[j / k]:=List.getElem?_eq_getElem hi;obtain⟨_,hc⟩:=cH _ _ (j / k) (mF enc l[j / k]) hr (by simp[hl])
 have hv:(enc l[j / k])[j % k]? =some ((enc l[j / k])[j % k]'(by rw[hk];exact hm)):=List.getElem?_eq_getElem _
 obtain⟨y,h1,_,h3⟩:=kV _ _ (j % k) (.sc ((enc l[j / k])[j % k]'(by rw[hk];exact hm))) hc (by simp[mF,hv])
 simp only[R]at h3;subst h3;have hd:j / k*k+j % k=j:=by rw[Nat.mul_comm];exact Nat.div_add_mod j k
 refine⟨?_,by simp[World.frozen?,hheap]⟩
 rw[World.cell?,hheap];simp only[Option.isSome_none,Bool.false_eq_true,if_false];rw[get_flatK _ _ _ _ (by simpa using hj')]
 grind
theorem Lz{c:Array Value}(l:List α)(h1:∀x,∀v∈enc x,v.oneCell'=true)(hc:l.length*k≤c.size):gr g w (putCells id 0 (flatK enc k l.toArray) c) k (l.map (mF enc)) 0:=by
 refine iT _ _ fun j r hj=>?_
 obtain⟨x,hx,rfl⟩:=Option.map_eq_some_iff.1 (by rwa[List.getElem?_map]at hj:(l[j]?).map (mF enc)=some r)
 refine⟨by simp[mF,hk],pK _ _ fun i a hi=>?_⟩
 obtain⟨v,hv,rfl⟩:=Option.map_eq_some_iff.1 (by grind [mF]:((enc x)[i]?).map AVal.sc=some a)
 have hik:i<k:=by have:=(List.getElem?_eq_some_iff.1 hv).1;rwa[hk]at this
 have hjl:j<l.length:=(List.getElem?_eq_some_iff.1 hx).1;have hlt:j*k+i<l.length*k:=by
  have:=Nat.mul_le_mul_right k (show j+1≤l.length from hjl);rw[Nat.add_mul,Nat.one_mul]at this;omega
 have e1:(j*k+i) / k=j:=(blk_iff k j _ (by omega)).1 ⟨by omega,by omega⟩
 have e2:(j*k+i) % k=i:=by rw[Nat.mod_eq_sub_div_mul,e1];omega
 refine⟨v,?_,h1 x v (List.mem_of_getElem? hv),by simp[R]⟩
 simp only[putCells,Array.getElem?_mapIdx,Nat.zero_add,size_flatK,List.size_toArray];rw[Array.getElem?_eq_getElem (by omega)]
 simp only[Option.map_some,Nat.zero_le,true_and,Nat.sub_zero];rw[if_pos hlt,get_flatK _ _ _ _ (by simpa using hlt),e1,e2]
 grind
theorem Gk{kb:Nat}{c:Array Value}{e:TypeId}{l l':List α}{n:Nat}{os:Array Obj}(k0:0<k)(h1:∀x,∀v∈enc x,v.oneCell'=true)(hi:Inv g [.row 0 k (l.map (mF enc))] w)(hrho:g.ai 0 0=some (kb,k))
 (hheap:w.heap[kb]? =some (.cells c e (0,0))) (hl:l.length*k≤c.size) (hlen:l'.length=l.length):
 Inv g [.row 0 k (l'.map (mF enc))] (sortWorldK enc k w kb 0 n l'.toArray os)∧aQ g [.row 0 k (l.map (mF enc))] w g [.row 0 k (l'.map (mF enc))] (sortWorldK enc k w kb 0 n l'.toArray os):=by
 have hput:(putRowK enc k (Sort.ahead w n) kb 0 l'.toArray).heap[kb]? =some (.cells (putCells id 0 (flatK enc k l'.toArray) c) e (0,0)):=by
  simp only[putRowK,putRow,mapBlock,heap_ahead,Array.getElem?_modify,if_true,hheap,Option.map_some,onCells]
 have hoth:∀j,j≠kb→(putRowK enc k (Sort.ahead w n) kb 0 l'.toArray).heap[j]? =w.heap[j]? :=fun j hj=>by
  simp only[putRowK,putRow,mapBlock,heap_ahead,Array.getElem?_modify,if_neg (Ne.symm hj)]
 obtain⟨s1,s2⟩:=hi.store (b:=0) (ak:=0) (sz:=k) (k:=kb) (rows:=l.map (mF enc)) (rows':=l'.map (mF enc)) rfl hrho hheap hput (by simp[putCells]) hoth (by simp[putRowK]) rfl ⟨rfl,Nat.le_add_right _ _⟩ rfl
  (Lz enc k hk l' h1 (by rw[hlen];exact hl)) (by simp[putCells,hlen,hl])
 have hos:∀j,j<(putRowK enc k (Sort.ahead w n) kb 0 l'.toArray).heap.size→(sortWorldK enc k w kb 0 n l'.toArray os).heap[j]? =(putRowK enc k (Sort.ahead w n) kb 0 l'.toArray).heap[j]? :=fun j hj=>by
  simp only[sortWorldK,grow,Array.getElem?_append,hj,if_true]
 obtain⟨t1,t2⟩:=s1.frame (w1:=sortWorldK enc k w kb 0 n l'.toArray os) hos (by simp[sortWorldK]) rfl ⟨rfl,Nat.le_refl _⟩ rfl
 exact⟨t1,s2.trans t2⟩
end
theorem Nk{gf:Nat}{enc:α→List Value}{k:Nat}(hk:∀x,(enc x).length=k)(k0:0<k)(h1:∀x,∀v∈enc x,v.oneCell'=true){cf:α→α→Int}(hcmp:∀x y,jV P gf [.agg (mF enc x),.agg (mF enc y)] (.ret (.sc (.int .i64 (cf x y)))))
 {g:Gh} {w:World} {kb:Nat} {c:Array Value} {e:TypeId} {l:List α} (hi:Inv g [.row 0 k (l.map (mF enc))] w) (hrho:g.ai 0 0=some (kb,k))
 (hheap:w.heap[kb]? =some (.cells c e (0,0))) (hl:l.length*k≤c.size):CmpLays P gf #[] enc k cf kb 0 l.length w:=by
 intro m os dk hs x y;obtain⟨i1,_⟩:=Gk enc k hk (l':=dk.toList) (n:=m) (os:=os) k0 h1 hi hrho hheap hl (by simpa using hs)
 rw[Array.toArray_toList]at i1;have hb:=Inv.bare i1;have hl2:RL ({ai:=fun _ _=>none,st:=g.st}:Gh) (sortWorldK enc k w kb 0 m dk os) [.agg (mF enc x),.agg (mF enc y)] (#[.agg (enc x).toArray,.agg (enc y).toArray]:Array Value).toList:=by
  simp only[RL,R];exact⟨_,_,rfl,⟨enc x,rfl,h1 x,Kh _⟩,_,_,rfl,⟨enc y,rfl,h1 y,Kh _⟩,rfl⟩
 rw[Array.append_empty];refine((hcmp x y).2 _ _ _ hb hl2).mono fun e2 w2 ⟨g2,_,hla,he⟩=>?_
 obtain⟨v,rfl,hv⟩:=he;grind [R,Hs]
theorem Ki(L:SlLaysF0.n6 P ρ){gf:Nat}{enc:α→List Value}{k:Nat}(hk:∀x,(enc x).length=k)(k0:0<k)(h1:∀x,∀v∈enc x,v.oneCell'=true){cf:α→α→Int}(hO:SWO (ltOf cf))
 (aE:∀w,(isAgg (ρ.t 24)).run P w=.ok true w) (zE:∀w,(Go.sizeOf (ρ.t 24)).run P w=.ok k w) (eg:∀args w,(callFunc gf args).run P w=.ok (.enter gf args) w)
 (hf : ∃ fn c, P.funcs[ρ.f 6]? = some fn ∧ fn.body = some c ∧ fn.name ≠ "runtime.NumGoroutine")
 (hcmp:∀x y,jV P gf [.agg (mF enc x),.agg (mF enc y)] (.ret (.sc (.int .i64 (cf x y))))) (l:List α) (hsz:l.length<4611686018427387904):
 bO P (ρ.f 6) [.sl 0 0 k 0 l.length,.fn (.func gf) [] []] [.row 0 k (l.map (mF enc))] (.ret nothing)
  [.row 0 k ((pdq (ltOf cf) l.toArray 0 l.length (Lib.bitLen l.length) true true).toList.map (mF enc))]:=by
 have hp:=pdq_sorts (ltOf cf) hO l.toArray 0 l.length (Lib.bitLen l.length) true true (Nat.zero_le _) (by simp) (Or.inl rfl)
 have hlen:(pdq (ltOf cf) l.toArray 0 l.length (Lib.bitLen l.length) true true).toList.length=l.length:=by
  have:=hp.1.1;simpa using this
 refine⟨hf,fun g w vs hi hl=>?_⟩
 simp only[RL]at hl;obtain⟨x1,xs,hvs,hx1,x2,xs2,rfl,hx2,rfl⟩:=hl;obtain rfl:vs= #[x1,x2]:=by apply Array.ext';simpa using hvs
 simp only[R,RL]at hx2;obtain⟨va,vb,rfl,rfl,rfl⟩:=hx2;simp only[R]at hx1;rcases hx1 with⟨h0,rfl⟩ |⟨kb,cap,e,s,hrho,rfl,hsh,hcap,hle,hbig⟩
 ·have hl0:l=[]:=List.length_eq_zero_iff.1 h0;subst hl0;refine(AnyF.slices_SortFunc_none L none 0 _ w).mono fun e' w' ⟨he,hw⟩=>?_
  subst he;subst hw;refine⟨g,?_,?_,⟨_,rfl,by simp[R,nothing]⟩⟩
  ·grind
  grind [aQ.refl]
 ·obtain⟨kb',c,e',hr1,hheap,hrows,hsize,_,hfree⟩:=hi.row 0 0 k _ rfl hrho;rw[hrho]at hr1;simp only[Option.some.injEq,Prod.mk.injEq,and_true]at hr1;subst hr1;rw[List.length_map]at hsize;have hH:=Ht enc k hk l hheap hrows;have hblk:kb<w.heap.size:=(Array.getElem?_eq_some_iff.1 hheap).1;have hC:=Nk hk k0 h1 hcmp hi hrho hheap hsize;have key:=AnyQ.slices_SortFunc_eq L k aE zE enc hk h1 cf hO gf #[] kb 0 cap l.toArray w eg (by simpa using hC) hH hblk (by simpa using hsz)
  rw[Nat.zero_mul];simp only[List.size_toArray]at key;refine key.mono fun e2 w2 ⟨he,n,os,hw⟩=>?_
  subst he;subst hw;obtain⟨i1,i2⟩:=Gk enc k hk (l':=(pdq (ltOf cf) l.toArray 0 l.length (Lib.bitLen l.length) true true).toList) (n:=n) (os:=os) k0 h1 hi hrho hheap hsize hlen;rw[Array.toArray_toList]at i1 i2;exact⟨g,i1,i2,⟨_,rfl,by simp[R,nothing]⟩⟩
end
end Go.AM
end
