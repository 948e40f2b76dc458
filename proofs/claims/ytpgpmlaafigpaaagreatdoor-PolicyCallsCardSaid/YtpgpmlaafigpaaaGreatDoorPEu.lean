/- What editing communities and applying a policy answer. No conditions. -/
import Derived.Test.YtpgpmlaafigpaaaGreatDoorPEt
import Derived.Test.YtpgpmlaafigpaaaGreatDoorWPe
import Derived.Test.YtpgpmlaafigpaaaGreatDoorWPy
namespace Go.L
open Go.AM Go.Sort
set_option maxRecDepth 100000
set_option linter.unusedVariables false
set_option linter.unusedSimpArgs false
section
variable {K V:Type} [DecidableEq K] {eq:K→K→Bool}
theorem JU(heq:∀a b,eq a b=decide (a=b)):∀(m:List (K×V)) (k:K) (i:Nat),(bp eq k m i).isSome=decide (k∈m.map (·.1))
 | [],k,i=>by simp[bp]
 |p::ps,k,i=>by
  simp only[bp,heq,decide_eq_true_eq];by_cases h:k=p.1
  ·simp[h]
  ·rw[if_neg h,JU heq ps k (i+1)];simp[h]
theorem L1(heq:∀a b,eq a b=decide (a=b)):∀(m:List (K×V)) (k:K) (j i:Nat) (v:V),bp eq k m j=some (i,v)→j≤i∧m[i - j]? =some (k,v)
 | [],_,_,_,_,h=>by simp[bp]at h
 |p::ps,k,j,i,v,h=>by
  simp only[bp,heq,decide_eq_true_eq]at h;by_cases hk:k=p.1
  ·rw[if_pos hk]at h;simp only[Option.some.injEq,Prod.mk.injEq]at h;obtain⟨rfl,rfl⟩:=h;subst hk;simp
  ·rw[if_neg hk]at h;obtain⟨h1,h2⟩:=L1 heq ps k (j+1) i v h;refine⟨by omega,?_⟩
   rw[show i - j=(i - (j+1))+1 by omega,List.getElem?_cons_succ]
   exact h2
theorem RH(heq:∀a b,eq a b=decide (a=b))(m:List (K×V))(k q:K)(v:V):q∈(dx eq k v m).map (·.1)↔q∈m.map (·.1)∨q=k:=by
 unfold dx;cases hf:bp eq k m 0 with
 |none=>
  simp only[List.map_append,List.mem_append,List.map_cons,List.map_nil,List.mem_singleton]
 |some p=>
  obtain⟨i,w⟩:=p;obtain⟨_,h2⟩:=L1 heq m k 0 i w hf;rw[Nat.sub_zero]at h2;obtain⟨hi,he⟩:=List.getElem?_eq_some_iff.1 h2;have e:(m.set i (k,v)).map (·.1)=m.map (·.1):=by
   rw[List.map_set];refine List.ext_getElem (by simp) fun j h1 h3=>?_
   rw[List.getElem_set];split
   ·rename_i hj;subst hj;simp[he]
   ·rfl
  simp only[e];constructor
  ·exact .inl
  ·rintro(h |rfl)
   ·exact h
   ·exact List.mem_map.2 ⟨(q,w),List.mem_of_getElem? h2,rfl⟩
end
def gp(rem:List (V8 Int))(c:V8 Int):Bool:= !decide (c∈rem)
noncomputable def tC(l rem add:List (V8 Int)):List (V8 Int):=jh (l.filter (gp rem)++add)
theorem Tj(N:Nat)(l:List (V8 Int))(hs:l.length<1000000)(hN:l.length+2<N):cr N (fun n=>kg.S n l) fun(r:List (V8 Int))=>r=jh l:=
 ⟨jh l,rfl,fun n hn=>PI n l (by omega) (by omega)⟩
theorem get_some{α:Type}(l:List α)(i:Nat)(h:i<l.length):∃x,l[i]? =some x∧x=l[i]:=⟨l[i],List.getElem?_eq_getElem h,rfl⟩
theorem nj{c:Prop}[Decidable c]{α:Type}{a:α}(h:c):(if c then some a else none)=some a:=if_pos h
theorem eW{α:Type}{l:List α}{i:Nat}{x:α}(h:l[i]? =some x):l.take (i+1)=l.take i++[x]:=by
 rw[List.take_add_one,h];rfl
theorem Tl(N:Nat)(l rem add:List (V8 Int))(h1:l.length<100000)(h2:rem.length<100000)(h3:add.length<100000)(hN1:l.length+add.length+2<N)(hN2:rem.length<N):
 cr N (fun n=>dG.S n (l,l.length,rem,add)) fun(r:List (V8 Int))=>r=tC l rem add:=by
 refine(?_ :bk N (yG l l.length rem add) _);unfold yG;refine .skip (.op () rfl (.skip (.op () rfl (.skip (.loop (fun(a:Int×List (V8 Int×dO))=>0≤a.1∧a.1≤(rem.length:Int)∧∀q,q∈a.2.map (·.1)↔q∈rem.take a.1.toNat) (fun a=>((rem.length:Int) - a.1).toNat)
  (fun(t:List (V8 Int×dO))=>∀q,q∈t.map (·.1)↔q∈rem) rfl ⟨by simp,by simp,fun q=>by simp⟩ ?_ ?_ ?_)))))
 ·simp;omega
 ·rintro⟨a,m⟩ ⟨g0,g1,g2⟩;simp only at g0 g1 g2 ⊢;refine .skip (.br (fun h=>.skip ?_) fun h=>.skip (.done rfl ?_))
  ·simp only[decide_eq_true_eq]at h;obtain⟨y,hy,hg⟩:=fq rem (ay (cI .u8)) 8 a g0 h;refine .op y hy (.skip (.op () rfl (.skip (.done rfl ?_))));rw[wrap_i64 (by omega) (by omega)]
   refine⟨⟨?_,?_,fun q=>?_⟩,?_⟩<;>simp only
   ·omega
   ·omega
   ·rw[RH LW,g2,show(a+1).toNat=a.toNat+1 by omega,eW hg]
    simp
   ·omega
  ·simp only[decide_eq_false_iff_not]at h;intro q;rw[g2,List.take_of_length_le (by omega)]
 ·rintro(t:List (V8 Int×dO)) ht;have hf:∀q,(bp (fun(a b:V8 Int)=>((a.a0==b.a0)&&((a.a1==b.a1)&&((a.a2==b.a2)&&((a.a3==b.a3)&&((a.a4==b.a4)&&((a.a5==b.a5)&&((a.a6==b.a6)&&((a.a7==b.a7)&&true))))))))) q t 0).isSome=decide (q∈rem):=by
   intro q;rw[JU LW];exact decide_eq_decide.2 (ht q)
  have fin:∀L:List (V8 Int),L=l.filter (gp rem)++add→bk (P:=prog) N (.call kg L fun(r:List (V8 Int))=>.skip 1<|.done [] r) fun(r:List (V8 Int))=>r=tC l rem add:=by
   rintro L rfl;have:(l.filter (gp rem)).length≤l.length:=List.length_filter_le _ _;exact .call _ (Tj N _ (by simp;omega) (by simp;omega)) fun r hr=>.skip (.done rfl hr)
  have hap:∀(k:Nat) (m:List (V8 Int)),k≤m.length→m.length=l.length→(Ac k m add (ay (cI .u8)) 8 8 0 0 3 []).run=some ():=by
   intro k m hk hm;exact nj ⟨hk,by simp[roomy];omega⟩
  have whole:(∀q∈l,q∉rem)→l.take l.length=l.filter (gp rem):=by
   intro hq;rw[List.take_of_length_le (Nat.le_refl _),List.filter_eq_self.2];intro q hm;simp[gp,hq q hm]
  refine .skip (.inl (.skip (.inl (.skip (.loop (fun(a:Int)=>0≤a∧a≤(l.length:Int)∧∀q∈l.take a.toNat,q∉rem) (fun a=>((l.length:Int) - a).toNat)
   (fun(s:Int⊕Unit)=>(∃i:Int,s=.inl i∧0≤i∧i<l.length∧(∀q∈l.take i.toNat,q∉rem)∧∃y,l[i.toNat]? =some y∧y∈rem)∨(s=.inr ()∧∀q∈l,q∉rem)) rfl ⟨by simp,by simp,fun q hq=>by simp at hq⟩ ?_ ?_ ?_)))))
  ·simp;omega
  ·rintro a ⟨g0,g1,g2⟩;refine .skip (.br (fun h=>.skip ?_) fun h=>.skip (.done rfl ?_))
   ·simp only[decide_eq_true_eq]at h;obtain⟨y,hy,-⟩:=get_some l a.toNat (by omega)
    refine .op () (nj ⟨g0,h⟩) (.op y hy (.inl (.skip (.op () rfl (.skip (.tidy rfl (.inl ?_)))))));rw[hf];refine .br (fun hm=>.skip (.done rfl ?_)) fun hm=>.skip (.done rfl ?_)
    ·exact .inl ⟨a,rfl,g0,h,g2,y,hy,by simpa using hm⟩
    ·rw[wrap_i64 (by omega) (by omega)]
     refine⟨⟨by omega,by omega,fun q hq=>?_⟩,by(try simp only);omega⟩
     rw[show(a+1).toNat=a.toNat+1 by omega,eW hy]at hq
     rcases List.mem_append.1 hq with hq |hq
     ·exact g2 q hq
     ·rw[List.mem_singleton.1 hq];simpa using hm
   ·simp only[decide_eq_false_iff_not]at h;refine .inr ⟨rfl,fun q hq=>g2 q ?_⟩
    rw[List.take_of_length_le (by omega)];exact hq
  ·rintro s (⟨i,rfl,g0,g1,g2,y,hy,hyr⟩ |⟨rfl,hq⟩)
   ·refine .tidy rfl (.inl (.skip (.br (fun h=>?_) fun h=>.skip ?_)))
    ·simp only[beq_iff_eq]at h;omega
    ·rw[wrap_i64 (by omega) (by omega)]
     have keep0:(l.take i.toNat).filter (gp rem)=l.take i.toNat:=by
      rw[List.filter_eq_self];intro q hm;simp[gp,g2 q hm]
     refine .loop (fun(a:Int×Int×List (V8 Int))=>0≤a.1∧a.1<a.2.1∧a.2.1≤(l.length:Int)∧a.2.2.length=l.length∧a.2.2.take a.1.toNat=(l.take a.2.1.toNat).filter (gp rem)∧a.2.2.drop a.2.1.toNat=l.drop a.2.1.toNat) (fun a=>((l.length:Int) - a.2.1).toNat)
      (fun(t:Int×List (V8 Int))=>0≤t.1∧t.1<(l.length:Int)∧t.2.length=l.length∧t.2.take t.1.toNat=l.filter (gp rem)) rfl ⟨g0,by simp only;omega,by simp only;omega,rfl,?_,rfl⟩ ?_ ?_ ?_
     ·simp only
      rw[show(i+1).toNat=i.toNat+1 by omega,eW hy,List.filter_append,keep0]
      simp[gp,hyr]
     ·simp;omega
     ·rintro⟨a,b,m⟩ ⟨k0,k1,k2,k3,k4,k5⟩;simp only at k0 k1 k2 k3 k4 k5 ⊢;refine .skip (.br (fun h=>.skip ?_) fun h=>.skip (.done rfl ?_))
      ·simp only[decide_eq_true_eq]at h;obtain⟨z,hz,-⟩:=get_some l b.toNat (by omega)
       have hz2:m[b.toNat]? =some z:=by
        have e1:(m.drop b.toNat)[0]? =m[b.toNat]? :=by rw[List.getElem?_drop];rfl
        have e2:(l.drop b.toNat)[0]? =l[b.toNat]? :=by rw[List.getElem?_drop];rfl
        rw[← e1,k5,e2,hz]
       have hb1:(b+1).toNat=b.toNat+1:=by omega
       have hd:∀m':List (V8 Int),m'.drop b.toNat=m.drop b.toNat→m'.drop (b.toNat+1)=l.drop (b.toNat+1):=by
        intro m' hm';have:=congrArg (List.drop 1) (hm'.trans k5);simpa[List.drop_drop,Nat.add_comm]using this
       refine .op () (nj ⟨by omega,h⟩) (.op z hz2 (.skip (.inl (.skip (.op () rfl (.skip (.tidy rfl (.inl (.skip ?_)))))))))
       rw[hf];refine .br (fun hm=>.skip ?_) fun hm=>.skip (.done rfl ?_)
       ·obtain⟨w,hw,-⟩:=get_some m a.toNat (by omega)
        refine .op () (nj ⟨k0,by omega⟩) (.op w hw (.skip (.done rfl ?_)))
        rw[wrap_i64 (by omega) (by omega),wrap_i64 (by omega) (by omega)]
        refine⟨⟨?_,?_,?_,?_,?_,?_⟩,?_⟩<;>simp only
        ·omega
        ·omega
        ·omega
        ·rw[List.length_set];exact k3
        ·rw[hb1,eW hz,show(a+1).toNat=a.toNat+1 by omega,List.filter_append,← k4]
         rw[eW (x:=z) (by rw[List.getElem?_set_self (by omega)]),List.take_set_of_le (Nat.le_refl _)]
         congr 1;simp only[Bool.not_eq_true',decide_eq_false_iff_not]at hm;simp[gp,hm]
        ·rw[hb1];exact hd _ (by rw[List.drop_set_of_lt (by omega)])
        ·omega
       ·rw[wrap_i64 (by omega) (by omega)]
        refine⟨⟨k0,?_,?_,k3,?_,?_⟩,?_⟩<;>simp only
        ·omega
        ·omega
        ·rw[hb1,eW hz,List.filter_append,← k4];simp only[Bool.not_eq_false',decide_eq_true_eq]at hm;simp[gp,hm]
        ·rw[hb1];exact hd _ rfl
        ·omega
      ·simp only[decide_eq_false_iff_not]at h;refine⟨k0,by simp only;omega,k3,?_⟩
       simp only
       rw[k4,List.take_of_length_le (by omega)]
     ·rintro⟨a,m⟩ ⟨k0,k1,k2,k3⟩;simp only at k0 k1 k2 k3 ⊢;have hlen:a.toNat≤m.length:=by omega
      have ta:∀(L:List (V8 Int)),L.take a.toNat=m.take a.toNat→(L.take a.toNat)++add=l.filter (gp rem)++add:=by
       intro L hL;rw[hL,k3]
      refine .skip (.sp (fun hz=>?_) fun hz=>.sp (fun hl=>?_) fun hl=>?_)
      ·have hz0:a=0:=by simpa[Bj]using hz
       subst hz0;have hL:(List.take 0 m++List.replicate l.length (@V8.mk Int 0 0 0 0 0 0 0 0)++List.drop (0+l.length) m).length=l.length:=by simp;omega
       refine .op () (by show(if(0:Int)=0 then some ()else none)=some ();rfl) (.op () (nj (by omega)) (.skip (.op (0:Nat) (by show(if(0:Int)≤0∧(0:Int)≤(l.length:Int)then some (0:Int).toNat else none)=some 0;rw[if_pos ⟨by omega,by omega⟩];rfl) (.skip (.tidy rfl (.inl (.skip (.op () (hap _ _ (by omega) hL) (.tidy (by simp[aI,bh]) (fin _ ?_))))))))))
       exact ta _ (by simp)
      ·have hla:a<l.length:=by simpa[Bk]using hl
       have hz0:¬a=0:=by simpa[Bj]using hz
       have hL:(List.take (0+a.toNat) m++List.replicate (l.length - a.toNat) (@V8.mk Int 0 0 0 0 0 0 0 0)++List.drop ((0+a.toNat)+(l.length - a.toNat)) m).length=l.length:=by simp;omega
       refine .op a.toNat (nj ⟨by omega,by omega⟩) (.op () (nj (by omega)) (.skip (.op a.toNat (nj ⟨by omega,by omega⟩) (.skip (.tidy rfl (.inl (.skip (.op () (hap _ _ (by omega) hL) (.tidy (by simp[aI,bh]) (fin _ ?_))))))))))
       refine ta _ ?_;rw[List.append_assoc,List.take_append_of_le_length (by simp;omega),Nat.zero_add,List.take_take,Nat.min_self]
      ·have:¬a<l.length:=by simpa[Bk]using hl
       omega
   ·refine .skip (.tidy rfl (.inl (.skip (.tidy rfl (.inl (.skip (.op () (hap _ _ (Nat.le_refl _) rfl) (.tidy (by simp[aI,bh]) (fin _ ?_)))))))))
    rw[whole hq]
noncomputable def RJ(x2:Go.L.aq)(x14:Go.L.cu):G prog (Sh.El (.one (Prod Go.L.aq Bool))):=
 .skip 6<|.call lu x2.A.Path fun(r15:(List Int))=>.skip 6<|.call qG x2.A.cg fun(r16:(List Int))=>.skip 6<|.fK (nx 4) x2.A.aY fun(r17:(List (Go.AM.V8 Int)))=>.skip 5<|.br 50 x14.jQ (.skip 11<|.br 58 x14.kA (.skip 11<|.op (aM x14.aW (Go.AM.ay (Go.AM.cI .u8))) fun _=>.skip 2<|.br 69 ((((List.length x14.aW):Nat):Int)==(0:Int)) (.skip 2<|.op (aM x14.Add (Go.AM.ay (Go.AM.cI .u8))) fun _=>.skip 2<|.br 74 ((((List.length x14.Add):Nat):Int)==(0:Int)) (.skip 4<|.done [.cN (bh (.c 4 31) 4 0 8 (List.length r17) r17 (Go.AM.ay (Go.AM.cI .u8)) fun _=>rfl)] ((Go.L.aq.mk x2.N (Go.L.bE.mk x2.A.Origin r15 x2.A.Next true x14.gx true x14.dR x2.A.aK x2.A.aU r16 r17 x2.A.aC) x2.bS x2.cR),true)) (.skip 8<|.ax dG 4 0 [] (r17,(List.length r17),x14.aW,x14.Add) fun(r19:(List (Go.AM.V8 Int)))=>.skip 6<|.op (aM r19 (Go.AM.ay (Go.AM.cI .u8))) fun _=>.skip 1<|.br 90 (decide ((((List.length r19):Nat):Int)>(64:Int))) (.skip 4<|.done [] ((Go.L.aq.mk (Go.L.gO.mk (0:Int) (0:Int) (@Go.AM.kZ.mk Int (0:Int) (0:Int) (0:Int) (0:Int) (0:Int) (0:Int) (0:Int) (0:Int) (0:Int) (0:Int)) (0:Int) (0:Int) (0:Int) false (Go.L.Prefix.mk (0:Int) (0:Int)) (0:Int) (0:Int) (0:Int)) (Go.L.bE.mk (0:Int) [] (0:Int) false (0:Int) false (0:Int) false (0:Int) [] [] (Go.L.aC.mk (0:Int) (0:Int) (0:Int) (0:Int))) (0:Int) false),false)) (.skip 4<|.done [] ((Go.L.aq.mk x2.N (Go.L.bE.mk x2.A.Origin r15 x2.A.Next true x14.gx true x14.dR x2.A.aK x2.A.aU r16 r19 x2.A.aC) x2.bS x2.cR),true)))) (.skip 13<|.ax dG 4 0 [] (r17,(List.length r17),x14.aW,x14.Add) fun(r22:(List (Go.AM.V8 Int)))=>.skip 6<|.op (aM r22 (Go.AM.ay (Go.AM.cI .u8))) fun _=>.skip 1<|.br 90 (decide ((((List.length r22):Nat):Int)>(64:Int))) (.skip 4<|.done [] ((Go.L.aq.mk (Go.L.gO.mk (0:Int) (0:Int) (@Go.AM.kZ.mk Int (0:Int) (0:Int) (0:Int) (0:Int) (0:Int) (0:Int) (0:Int) (0:Int) (0:Int) (0:Int)) (0:Int) (0:Int) (0:Int) false (Go.L.Prefix.mk (0:Int) (0:Int)) (0:Int) (0:Int) (0:Int)) (Go.L.bE.mk (0:Int) [] (0:Int) false (0:Int) false (0:Int) false (0:Int) [] [] (Go.L.aC.mk (0:Int) (0:Int) (0:Int) (0:Int))) (0:Int) false),false)) (.skip 4<|.done [] ((Go.L.aq.mk x2.N (Go.L.bE.mk x2.A.Origin r15 x2.A.Next true x14.gx true x14.dR x2.A.aK x2.A.aU r16 r22 x2.A.aC) x2.bS x2.cR),true)))) (.skip 3<|.op (aM x14.aW (Go.AM.ay (Go.AM.cI .u8))) fun _=>.skip 2<|.br 69 ((((List.length x14.aW):Nat):Int)==(0:Int)) (.skip 2<|.op (aM x14.Add (Go.AM.ay (Go.AM.cI .u8))) fun _=>.skip 2<|.br 74 ((((List.length x14.Add):Nat):Int)==(0:Int)) (.skip 4<|.done [.cN (bh (.c 4 31) 4 0 8 (List.length r17) r17 (Go.AM.ay (Go.AM.cI .u8)) fun _=>rfl)] ((Go.L.aq.mk x2.N (Go.L.bE.mk x2.A.Origin r15 x2.A.Next x2.A.gw x2.A.gx true x14.dR x2.A.aK x2.A.aU r16 r17 x2.A.aC) x2.bS x2.cR),true)) (.skip 8<|.ax dG 4 0 [] (r17,(List.length r17),x14.aW,x14.Add) fun(r26:(List (Go.AM.V8 Int)))=>.skip 6<|.op (aM r26 (Go.AM.ay (Go.AM.cI .u8))) fun _=>.skip 1<|.br 90 (decide ((((List.length r26):Nat):Int)>(64:Int))) (.skip 4<|.done [] ((Go.L.aq.mk (Go.L.gO.mk (0:Int) (0:Int) (@Go.AM.kZ.mk Int (0:Int) (0:Int) (0:Int) (0:Int) (0:Int) (0:Int) (0:Int) (0:Int) (0:Int) (0:Int)) (0:Int) (0:Int) (0:Int) false (Go.L.Prefix.mk (0:Int) (0:Int)) (0:Int) (0:Int) (0:Int)) (Go.L.bE.mk (0:Int) [] (0:Int) false (0:Int) false (0:Int) false (0:Int) [] [] (Go.L.aC.mk (0:Int) (0:Int) (0:Int) (0:Int))) (0:Int) false),false)) (.skip 4<|.done [] ((Go.L.aq.mk x2.N (Go.L.bE.mk x2.A.Origin r15 x2.A.Next x2.A.gw x2.A.gx true x14.dR x2.A.aK x2.A.aU r16 r26 x2.A.aC) x2.bS x2.cR),true)))) (.skip 13<|.ax dG 4 0 [] (r17,(List.length r17),x14.aW,x14.Add) fun(r29:(List (Go.AM.V8 Int)))=>.skip 6<|.op (aM r29 (Go.AM.ay (Go.AM.cI .u8))) fun _=>.skip 1<|.br 90 (decide ((((List.length r29):Nat):Int)>(64:Int))) (.skip 4<|.done [] ((Go.L.aq.mk (Go.L.gO.mk (0:Int) (0:Int) (@Go.AM.kZ.mk Int (0:Int) (0:Int) (0:Int) (0:Int) (0:Int) (0:Int) (0:Int) (0:Int) (0:Int) (0:Int)) (0:Int) (0:Int) (0:Int) false (Go.L.Prefix.mk (0:Int) (0:Int)) (0:Int) (0:Int) (0:Int)) (Go.L.bE.mk (0:Int) [] (0:Int) false (0:Int) false (0:Int) false (0:Int) [] [] (Go.L.aC.mk (0:Int) (0:Int) (0:Int) (0:Int))) (0:Int) false),false)) (.skip 4<|.done [] ((Go.L.aq.mk x2.N (Go.L.bE.mk x2.A.Origin r15 x2.A.Next x2.A.gw x2.A.gx true x14.dR x2.A.aK x2.A.aU r16 r29 x2.A.aC) x2.bS x2.cR),true))))) (.skip 3<|.br 58 x14.kA (.skip 11<|.op (aM x14.aW (Go.AM.ay (Go.AM.cI .u8))) fun _=>.skip 2<|.br 69 ((((List.length x14.aW):Nat):Int)==(0:Int)) (.skip 2<|.op (aM x14.Add (Go.AM.ay (Go.AM.cI .u8))) fun _=>.skip 2<|.br 74 ((((List.length x14.Add):Nat):Int)==(0:Int)) (.skip 4<|.done [.cN (bh (.c 4 31) 4 0 8 (List.length r17) r17 (Go.AM.ay (Go.AM.cI .u8)) fun _=>rfl)] ((Go.L.aq.mk x2.N (Go.L.bE.mk x2.A.Origin r15 x2.A.Next true x14.gx x2.A.fI x2.A.dR x2.A.aK x2.A.aU r16 r17 x2.A.aC) x2.bS x2.cR),true)) (.skip 8<|.ax dG 4 0 [] (r17,(List.length r17),x14.aW,x14.Add) fun(r33:(List (Go.AM.V8 Int)))=>.skip 6<|.op (aM r33 (Go.AM.ay (Go.AM.cI .u8))) fun _=>.skip 1<|.br 90 (decide ((((List.length r33):Nat):Int)>(64:Int))) (.skip 4<|.done [] ((Go.L.aq.mk (Go.L.gO.mk (0:Int) (0:Int) (@Go.AM.kZ.mk Int (0:Int) (0:Int) (0:Int) (0:Int) (0:Int) (0:Int) (0:Int) (0:Int) (0:Int) (0:Int)) (0:Int) (0:Int) (0:Int) false (Go.L.Prefix.mk (0:Int) (0:Int)) (0:Int) (0:Int) (0:Int)) (Go.L.bE.mk (0:Int) [] (0:Int) false (0:Int) false (0:Int) false (0:Int) [] [] (Go.L.aC.mk (0:Int) (0:Int) (0:Int) (0:Int))) (0:Int) false),false)) (.skip 4<|.done [] ((Go.L.aq.mk x2.N (Go.L.bE.mk x2.A.Origin r15 x2.A.Next true x14.gx x2.A.fI x2.A.dR x2.A.aK x2.A.aU r16 r33 x2.A.aC) x2.bS x2.cR),true)))) (.skip 13<|.ax dG 4 0 [] (r17,(List.length r17),x14.aW,x14.Add) fun(r36:(List (Go.AM.V8 Int)))=>.skip 6<|.op (aM r36 (Go.AM.ay (Go.AM.cI .u8))) fun _=>.skip 1<|.br 90 (decide ((((List.length r36):Nat):Int)>(64:Int))) (.skip 4<|.done [] ((Go.L.aq.mk (Go.L.gO.mk (0:Int) (0:Int) (@Go.AM.kZ.mk Int (0:Int) (0:Int) (0:Int) (0:Int) (0:Int) (0:Int) (0:Int) (0:Int) (0:Int) (0:Int)) (0:Int) (0:Int) (0:Int) false (Go.L.Prefix.mk (0:Int) (0:Int)) (0:Int) (0:Int) (0:Int)) (Go.L.bE.mk (0:Int) [] (0:Int) false (0:Int) false (0:Int) false (0:Int) [] [] (Go.L.aC.mk (0:Int) (0:Int) (0:Int) (0:Int))) (0:Int) false),false)) (.skip 4<|.done [] ((Go.L.aq.mk x2.N (Go.L.bE.mk x2.A.Origin r15 x2.A.Next true x14.gx x2.A.fI x2.A.dR x2.A.aK x2.A.aU r16 r36 x2.A.aC) x2.bS x2.cR),true)))) (.skip 3<|.op (aM x14.aW (Go.AM.ay (Go.AM.cI .u8))) fun _=>.skip 2<|.br 69 ((((List.length x14.aW):Nat):Int)==(0:Int)) (.skip 2<|.op (aM x14.Add (Go.AM.ay (Go.AM.cI .u8))) fun _=>.skip 2<|.br 74 ((((List.length x14.Add):Nat):Int)==(0:Int)) (.skip 4<|.done [.cN (bh (.c 4 31) 4 0 8 (List.length r17) r17 (Go.AM.ay (Go.AM.cI .u8)) fun _=>rfl)] ((Go.L.aq.mk x2.N (Go.L.bE.mk x2.A.Origin r15 x2.A.Next x2.A.gw x2.A.gx x2.A.fI x2.A.dR x2.A.aK x2.A.aU r16 r17 x2.A.aC) x2.bS x2.cR),true)) (.skip 8<|.ax dG 4 0 [] (r17,(List.length r17),x14.aW,x14.Add) fun(r40:(List (Go.AM.V8 Int)))=>.skip 6<|.op (aM r40 (Go.AM.ay (Go.AM.cI .u8))) fun _=>.skip 1<|.br 90 (decide ((((List.length r40):Nat):Int)>(64:Int))) (.skip 4<|.done [] ((Go.L.aq.mk (Go.L.gO.mk (0:Int) (0:Int) (@Go.AM.kZ.mk Int (0:Int) (0:Int) (0:Int) (0:Int) (0:Int) (0:Int) (0:Int) (0:Int) (0:Int) (0:Int)) (0:Int) (0:Int) (0:Int) false (Go.L.Prefix.mk (0:Int) (0:Int)) (0:Int) (0:Int) (0:Int)) (Go.L.bE.mk (0:Int) [] (0:Int) false (0:Int) false (0:Int) false (0:Int) [] [] (Go.L.aC.mk (0:Int) (0:Int) (0:Int) (0:Int))) (0:Int) false),false)) (.skip 4<|.done [] ((Go.L.aq.mk x2.N (Go.L.bE.mk x2.A.Origin r15 x2.A.Next x2.A.gw x2.A.gx x2.A.fI x2.A.dR x2.A.aK x2.A.aU r16 r40 x2.A.aC) x2.bS x2.cR),true)))) (.skip 13<|.ax dG 4 0 [] (r17,(List.length r17),x14.aW,x14.Add) fun(r43:(List (Go.AM.V8 Int)))=>.skip 6<|.op (aM r43 (Go.AM.ay (Go.AM.cI .u8))) fun _=>.skip 1<|.br 90 (decide ((((List.length r43):Nat):Int)>(64:Int))) (.skip 4<|.done [] ((Go.L.aq.mk (Go.L.gO.mk (0:Int) (0:Int) (@Go.AM.kZ.mk Int (0:Int) (0:Int) (0:Int) (0:Int) (0:Int) (0:Int) (0:Int) (0:Int) (0:Int) (0:Int)) (0:Int) (0:Int) (0:Int) false (Go.L.Prefix.mk (0:Int) (0:Int)) (0:Int) (0:Int) (0:Int)) (Go.L.bE.mk (0:Int) [] (0:Int) false (0:Int) false (0:Int) false (0:Int) [] [] (Go.L.aC.mk (0:Int) (0:Int) (0:Int) (0:Int))) (0:Int) false),false)) (.skip 4<|.done [] ((Go.L.aq.mk x2.N (Go.L.bE.mk x2.A.Origin r15 x2.A.Next x2.A.gw x2.A.gx x2.A.fI x2.A.dR x2.A.aK x2.A.aU r16 r43 x2.A.aC) x2.bS x2.cR),true)))))
def tD:aq:=Go.L.aq.mk (Go.L.gO.mk (0:Int) (0:Int) (@Go.AM.kZ.mk Int (0:Int) (0:Int) (0:Int) (0:Int) (0:Int) (0:Int) (0:Int) (0:Int) (0:Int) (0:Int)) (0:Int) (0:Int) (0:Int) false (Go.L.Prefix.mk (0:Int) (0:Int)) (0:Int) (0:Int) (0:Int)) (Go.L.bE.mk (0:Int) [] (0:Int) false (0:Int) false (0:Int) false (0:Int) [] [] (Go.L.aC.mk (0:Int) (0:Int) (0:Int) (0:Int))) (0:Int) false
def yO(x:cu)(r:aq)(c:List (V8 Int)):aq:=
 aq.mk r.N (bE.mk r.A.Origin r.A.Path r.A.Next (if x.kA then true else r.A.gw) (if x.kA then x.gx else r.A.gx) (if x.jQ then true else r.A.fI) (if x.jQ then x.dR else r.A.dR) r.A.aK r.A.aU r.A.cg c r.A.aC) r.bS r.cR
noncomputable def Dr(x:cu)(r:aq):aq×Bool:=
 if x.aW=[]∧x.Add=[]then(yO x r r.A.aY,true)
 else if(tC r.A.aY x.aW x.Add).length>64 then(tD,false)else(yO x r (tC r.A.aY x.aW x.Add),true)
def rL(r:aq):Prop:=r.A.Path.length≤40∧r.A.cg.length≤20∧r.A.aY.length≤80
def zh(x:cu):Prop:=x.iw.length≤10∧x.Targets.length≤10∧x.Add.length≤80∧x.aW.length≤40
theorem PL(N:Nat)(l:List Int)(h:l.length<1000000):cr N (fun n=>lu.S n l) fun(r:List Int)=>r=l:=by
 cases l with
 |nil=>exact⟨[],rfl,fun _ _=>rfl⟩
 |cons x l=>
  refine(?_ :bk N (lq (x::l)) _);unfold lq;simp only[List.length_cons]at h;exact .skip (.op () rfl (.skip (.op () (nj ⟨rfl,by simp[roomy];omega⟩) (.skip (.done (by simp[aI,bh]) rfl)))))
theorem PM(N:Nat)(l:List Int)(h:l.length<1000000):cr N (fun n=>qG.S n l) fun(r:List Int)=>r=l:=by
 cases l with
 |nil=>exact⟨[],rfl,fun _ _=>rfl⟩
 |cons x l=>
  refine(?_ :bk N (qF (x::l)) _);unfold qF;simp only[List.length_cons]at h;exact .skip (.op () rfl (.skip (.op () (nj ⟨rfl,by simp[roomy];omega⟩) (.skip (.done (by simp[aI,bh]) rfl)))))
theorem PN(N k:Nat)(l:List (V8 Int))(h:l.length<1000000):cr N (fun n=>(nx k).S n l) fun(r:List (V8 Int))=>r=l:=
 ⟨l,rfl,fun n _=>by
  show iA l=some l;unfold iA;rw[if_pos (by simp[roomy];omega)]⟩
theorem Tm{α:Type}(l:List α):(((List.length l:Nat):Int)==(0:Int))=true↔l=[]:=by
 rw[beq_iff_eq,← List.length_eq_zero_iff];omega
theorem Ug{α:Type}(l:List α):(((List.length l:Nat):Int)==(0:Int))=false↔l≠[]:=by
 rw[← Bool.not_eq_true,Tm]
theorem JV{x:cu}{r:aq}(h1:x.aW=[])(h2:x.Add=[]):Dr x r=(yO x r r.A.aY,true):=if_pos ⟨h1,h2⟩
theorem Bw{x:cu}{r:aq}(h1:¬(x.aW=[]∧x.Add=[])):Dr x r=if(tC r.A.aY x.aW x.Add).length>64 then(tD,false)else(yO x r (tC r.A.aY x.aW x.Add),true):=if_neg h1
theorem Tn(N:Nat)(r:aq)(x:cu)(hr:rL r)(hx:zh x)(hN:1000≤N):bk N (RJ r x) fun(v:Prod aq Bool)=>v=Dr x r:=by
 obtain⟨r1,r2,r3⟩:=hr;obtain⟨x1,x2,x3,x4⟩:=hx;unfold RJ;refine .skip (.call _ (PL N _ (by omega)) fun p hp=>.skip (.call _ (PM N _ (by omega)) fun q hq=>.skip (.fK _ (PN N 4 _ (by omega)) fun c hc=>.skip ?_)))
 subst hp hq hc;refine .br (fun hp=>.skip (.br (fun hm=>.skip ?_) fun hm=>.skip ?_)) fun hp=>.skip (.br (fun hm=>.skip ?_) fun hm=>.skip ?_)
 all_goals
  refine .op () rfl (.skip (.br (fun h1=>.skip (.op () rfl (.skip (.br (fun h2=>.skip (.done (by simp[aI,bh]) ?_)) fun h2=>.skip ?_)))) fun h1=>.skip ?_))
  ·rw[JV ((Tm _).1 h1) ((Tm _).1 h2)];simp only[yO,hp,hm];rfl
  all_goals
   refine .ax _ (Tl N r.A.aY x.aW x.Add (by omega) (by omega) (by omega) (by omega) (by omega)) fun e he=>.skip (.op () rfl (.skip ?_))
   subst he;have hne:¬(x.aW=[]∧x.Add=[]):=by
    intro⟨e1,e2⟩
    first
     |exact(Ug _).1 h1 e1
     |exact(Ug _).1 h2 e2
   rw[Bw hne];refine .br (fun h3=>.skip (.done rfl ?_)) fun h3=>.skip (.done rfl ?_)
   ·rw[if_pos (by simp only[decide_eq_true_eq]at h3;omega)];rfl
   ·rw[if_neg (by simp only[decide_eq_false_iff_not]at h3;omega)];simp only[yO,hp,hm];rfl
noncomputable def jR(mt:cu→Bool)(l:List cu)(r:aq):aq×Bool:=
 match l.find? mt with
 |none=>(tD,false)
 |some x=>if x.qT then Dr x r else(tD,false)
theorem Oc{α:Type}{p:α→Bool}{l:List α}{t:Nat}{y:α}(hy:l[t]? =some y)(hp:p y=true)(hn:∀j z,j<t→l[j]? =some z→p z=false):l.find? p=some y:=by
 obtain⟨ht,he⟩:=List.getElem?_eq_some_iff.1 hy;rw[List.find?_eq_some_iff_getElem];refine⟨hp,t,ht,he,fun j hj=>?_⟩
 rw[hn j l[j] hj (List.getElem?_eq_getElem (by omega))];rfl
theorem L2{α:Type}{p:α→Bool}{l:List α}(hn:∀(j:Nat) z,l[j]? =some z→p z=false):l.find? p=none:=by
 rw[List.find?_eq_none];intro x hx;obtain⟨j,hj,he⟩:=List.getElem_of_mem hx;rw[hn j x (by rw[List.getElem?_eq_getElem hj,he])];simp
theorem I9(r:aq):(nO r).length≤r.A.aY.length:=Nat.le_trans (ES _) (List.length_filterMap_le _ _)
theorem Od(r:aq):qe (nO r):=B0 _
theorem Oe(N:Nat)(r:aq)(hr:rL r)(hN:1000≤N):cr N (fun n=>eR.S n r.A.aY) fun(t:List Int)=>t=nO r:=by
 have:=hr.2.2;exact⟨nO r,rfl,fun n hn=>B4 n _ (by omega) (by omega)⟩
noncomputable def oa(r:aq)(x:cu):Bool:=yh x r (nO r)
theorem RK(N:Nat)(r:aq)(x:cu)(hr:rL r)(hx:zh x)(hN:1000≤N):cr N (fun n=>qE.S n (x,r,nO r)) fun(b:Bool)=>b=oa r x:=by
 have h1:=hr.2.2;have h2:=hx.1;have h3:=hx.2.1;have h4:=I9 r;exact PE N x r (nO r) (Od r) (by omega) (by omega) (by omega) (by omega) (by omega) (by omega)
theorem JW(N:Nat)(l:List cu)(r:aq)(hr:rL r)(hl:∀x∈l,zh x)(hN:l.length+1000≤N)(hll:l.length<1000000):cr N (fun n=>xo.S n (l,r)) fun(v:Prod aq Bool)=>v=jR (oa r) l r:=by
 refine(?_ :bk N (xm l r) _);unfold xm;refine .skip (.call _ (Oe N r hr (by omega)) fun t ht=>.skip (.inl (.skip (.op () rfl (.skip ?_)))))
 subst ht;refine .loop (fun(a:Int)=>0≤a∧a≤(l.length:Int)∧∀(j:Nat) z,j<a.toNat→l[j]? =some z→oa r z=false) (fun a=>((l.length:Int) - a).toNat)
  (fun(s:Int⊕Unit)=>(∃i:Int,s=.inl i∧0≤i∧i<l.length∧∃y,l[i.toNat]? =some y∧l.find? (oa r)=some y)∨(s=.inr ()∧l.find? (oa r)=none)) rfl ⟨by simp,by simp,fun j z hj=>by simp at hj⟩ ?_ ?_ ?_
 ·simp;omega
 ·rintro a ⟨g0,g1,g2⟩;refine .skip (.br (fun h=>.skip ?_) fun h=>.skip (.done rfl ?_))
  ·simp only[decide_eq_true_eq]at h;obtain⟨y,hy,hg⟩:=fq l bI 15 a g0 h;refine .op y hy (.skip (.inl (.skip (.call _ (RK N r y hr (hl y (List.mem_of_getElem? hg)) (by omega)) fun b hb=>.skip (.tidy rfl (.inl ?_))))))
   subst hb;refine .br (fun hm=>.skip (.done rfl ?_)) fun hm=>.skip (.done rfl ?_)
   ·exact .inl ⟨a,rfl,g0,h,y,hg,Oc hg hm g2⟩
   ·rw[wrap_i64 (by omega) (by omega)]
    refine⟨⟨by omega,by omega,fun j z hj hz=>?_⟩,by(try simp only);omega⟩
    by_cases he:j=a.toNat
    ·subst he;rw[hg]at hz;cases hz;exact hm
    ·exact g2 j z (by omega) hz
  ·simp only[decide_eq_false_iff_not]at h;refine .inr ⟨rfl,L2 fun j z hz=>g2 j z ?_ hz⟩
   have:=(List.getElem?_eq_some_iff.1 hz).1;omega
 ·rintro s (⟨i,rfl,g0,g1,y,hg,hf⟩ |⟨rfl,hf⟩)
  ·obtain⟨y',hy',hg'⟩:=fq l bI 15 i g0 g1;obtain rfl:y'=y:=Option.some.inj (hg'.symm.trans hg);refine .tidy rfl (.inl (.skip (.br (fun h=>by simp only[decide_eq_true_eq]at h;omega) fun h=>.skip (.op y' hy' (.skip ?_)))))
   refine .br (fun h=>.skip (.done rfl ?_)) fun h=>.skip (.op y' hy' ?_)
   ·simp only[jR,hf];rw[if_neg (by simpa using h)];rfl
   ·have e:jR (oa r) l r=Dr y' r:=by
     simp only[jR,hf];rw[if_pos (by simpa using h)]
    rw[e];exact Tn N r y' hr (hl y' (List.mem_of_getElem? hg)) (by omega)
  ·refine .skip (.tidy rfl (.inl (.skip (.done rfl ?_))));simp only[jR,hf];rfl
end Go.L
