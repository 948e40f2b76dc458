/- Parts put together. No conditions. -/
import Derived.Test.YtiohninblcifpaaGreatDoorPTt0
import Derived.Test.YtiohninblcifpaaGreatDoorWx
import Derived.Test.YtiohninblcifpaaGreatDoorPs
set_option linter.unusedSimpArgs false
set_option linter.unusedVariables false
set_option maxRecDepth 100000
section
namespace Go.L
open Go.AM
def E6(x:V8 Int):Prop:=(0≤x.a0∧x.a0<256)∧(0≤x.a1∧x.a1<256)∧(0≤x.a2∧x.a2<256)∧(0≤x.a3∧x.a3<256)∧(0≤x.a4∧x.a4<256)∧(0≤x.a5∧x.a5<256)∧(0≤x.a6∧x.a6<256)∧(0≤x.a7∧x.a7<256)
theorem E7{a x:Int}(h0:0≤a)(h1:a<72057594037927936)(g0:0≤x)(g1:x<256):jy a x=a*256+x:=by
 obtain⟨p,rfl⟩:=Int.eq_ofNat_of_zero_le h0;obtain⟨q,rfl⟩:=Int.eq_ofNat_of_zero_le g0;have e1:IntKind.wrap .u64 ((p:Int)*((2:Int) ^ (@Min.min Nat instMinNat (Int.toNat (8:Int)) (IntKind.bits .u64))))=((2 ^ 8*p:Nat):Int):=by
  simp[IntKind.wrap,IntKind.bits,IntKind.signed];omega
 have e2:IntKind.wrap .u64 (q:Int)=(q:Int):=by
  simp[IntKind.wrap,IntKind.bits,IntKind.signed];omega
 unfold jy;rw[e1,e2];have hor:2 ^ 8*p|||q=2 ^ 8*p+q:=(Nat.two_pow_add_eq_or_of_lt (i:=8) (by omega) p).symm
 have e3:((BitVec.ofInt (IntKind.bits .u64) ((2 ^ 8*p:Nat):Int))||| (BitVec.ofInt (IntKind.bits .u64) (q:Int))).toNat=2 ^ 8*p+q:=by
  rw[BitVec.toNat_or,BitVec.ofInt_natCast,BitVec.ofInt_natCast,BitVec.toNat_ofNat,BitVec.toNat_ofNat,Nat.mod_eq_of_lt,Nat.mod_eq_of_lt,hor]
  ·simp only[IntKind.bits];omega
  ·simp only[IntKind.bits];omega
 rw[e3];simp[IntKind.wrap,IntKind.bits,IntKind.signed];omega
theorem st2{a b:Int}(ha:0≤a∧a<256)(hb:0≤b∧b<256):jy (jy 0 a) b=a*256+b:=by
 rw[E7 (a:=0) (by omega) (by omega) ha.1 ha.2,E7 (by omega) (by omega) hb.1 hb.2];omega
theorem RJ{a b c:Int}(ha:0≤a∧a<256)(hb:0≤b∧b<256)(hc:0≤c∧c<256):jy (jy (jy 0 a) b) c=(a*256+b)*256+c:=by
 rw[st2 ha hb,E7 (by omega) (by omega) hc.1 hc.2]
theorem Rn{a b c d:Int}(ha:0≤a∧a<256)(hb:0≤b∧b<256)(hc:0≤c∧c<256)(hd:0≤d∧d<256):jy (jy (jy (jy 0 a) b) c) d=((a*256+b)*256+c)*256+d:=by
 rw[RJ ha hb hc,E7 (by omega) (by omega) hd.1 hd.2]
def sy(c:V8 Int):Int:=((((c.a2*256+c.a3)*256+c.a4)*256+c.a5)*256+c.a6)*256+c.a7
def mg(l:List (V8 Int))(K:Int):Option (V8 Int):=l.find? fun c=>lF c==K
theorem Df{l:List (V8 Int)}{K:Int}{i:Nat}(hi:i<l.length)(h:mg (l.take i) K=none)(hk:¬lF l[i]=K):mg (l.take (i+1)) K=none:=by
 unfold mg at*;rw[List.take_add_one,List.getElem?_eq_getElem hi,List.find?_append,h];simp[hk]
theorem Dg{l:List (V8 Int)}{K:Int}{i:Nat}(hi:i<l.length)(h:mg (l.take i) K=none)(hk:lF l[i]=K):mg l K=some l[i]:=by
 unfold mg at*;have e:l=l.take i++l[i]::l.drop (i+1):=by rw[← List.drop_eq_getElem_cons hi,List.take_append_drop]
 conv=>lhs;rw[e]
 rw[List.find?_append,h,Option.none_or,List.find?_cons];simp[hk]
theorem LL{l:List (V8 Int)}{K:Int}{c:V8 Int}(h:mg l K=some c):c∈l:=List.mem_of_find?_eq_some h
end Go.L
end
section
namespace Go.L
open Go.AM Go.Sort
theorem Oz{σ τ β:Type}{f:σ→Option (σ⊕τ)}{k:τ→Option β}{N:Nat}{s:σ}{P:β→Prop}(I:σ→Prop)(m:σ→Nat)(Q:τ→Prop)(hI:I s)(hm:m s<N)
 (step:∀s,I s→(∃t,f s=some (.inr t)∧Q t)∨∃s',f s=some (.inl s')∧I s'∧m s'<m s) (hk:∀t,Q t→∃r,k t=some r∧P r):∃r,(bI f N s).bind k=some r∧P r:=by
 obtain⟨t,e,hq⟩:=FK I m Q step N s hI hm;rw[e];exact hk t hq
section
variable {X β:Type}
theorem Gy(m n b aj o:Nat)(i:Int)(k:Unit→Option β):(xd m n b aj o i).run.bind k=if i=0 then k ()else none:=by
 show(if i=0 then some ()else none).bind k=_
 split<;>rfl
theorem Gz(m n b aj o:Nat)(i:Int)(k:Unit→Option β):(xe m n b aj o i).run.bind k=if i=m∧0<m then k ()else none:=by
 show(if i=m∧0<m then some ()else none).bind k=_
 split<;>rfl
theorem Na(len:Nat)(l m:List X)(e:X→List AVal)(n by_ b aj nid:Nat)(ids:List Nat)(k:Unit→Option β):(w9 len l m e n by_ b aj nid ids).run.bind k=if len≤l.length∧roomy (len+m.length) by_=true then k ()else none:=by
 show(if len≤l.length∧roomy (len+m.length) by_=true then some ()else none).bind k=_
 split<;>rfl
theorem Nb(len:Nat)(l l2:List X)(b2 ver2 o2 n2:Nat)(e:X→List AVal)(n by_ b aj nid:Nat)(k:Unit→Option β):(oP len l l2 b2 ver2 o2 n2 e n by_ b aj nid).run.bind k=if(len=l.length∧o2+n2≤l2.length)∧roomy (l.length+n2) by_=true then k ()else none:=by
 show(if(len=l.length∧o2+n2≤l2.length)∧roomy (l.length+n2) by_=true then some ()else none).bind k=_
 split<;>rfl
theorem Nc(len:Nat)(l l2:List X)(b2 ver2 o2 n2:Nat)(e:X→List AVal)(n by_ b aj nid:Nat)(k:Unit→Option β):(oQ len l l2 b2 ver2 o2 n2 e n by_ b aj nid).run.bind k=if(len≤l.length∧o2+n2≤l2.length)∧roomy (len+n2) by_=true then k ()else none:=by
 show(if(len≤l.length∧o2+n2≤l2.length)∧roomy (len+n2) by_=true then some ()else none).bind k=_
 split<;>rfl
end
theorem E8{α:Type}(lt:α→α→Prop)(tr:∀a b c,lt a b→lt b c→lt a c){out:List α}{x:α}{k:Nat}(hk:k≤out.length)(hp:out.Pairwise lt)(hlo:∀j (h:j<out.length),j<k→lt out[j] x)(hhi:∀h:k<out.length,lt x out[k]):
 (out.take k++x::out.drop k).Pairwise lt:=by
 have hi:∀y∈out.drop k,lt x y:=fun y hy=>by
  obtain⟨i,h1,rfl⟩:=List.getElem_of_mem hy;simp only[List.length_drop]at h1;rw[List.getElem_drop];by_cases h0:i=0
  ·subst h0;exact hhi (by omega)
  ·exact tr _ _ _ (hhi (by omega)) (List.pairwise_iff_getElem.1 hp k (k+i) (by omega) (by omega) (by omega))
 rw[List.pairwise_append];refine⟨hp.sublist (List.take_sublist _ _),List.pairwise_cons.2 ⟨hi,hp.sublist (List.drop_sublist _ _)⟩,fun a ha b hb=>?_⟩
 obtain⟨j,h1,rfl⟩:=List.getElem_of_mem ha;simp only[List.length_take]at h1;rw[List.getElem_take];have hax:=hlo j (by omega) (by omega)
 rcases List.mem_cons.1 hb with rfl |hb
 ·exact hax
 ·exact tr _ _ _ hax (hi b hb)
theorem PB{α:Type}{out:List α}{x y:α}(k:Nat):y∈out.take k++x::out.drop k↔y=x∨y∈out:=by
 rw[List.mem_append,List.mem_cons]
 conv=>rhs;rw[← List.take_append_drop k out,List.mem_append]
 constructor
 ·rintro(h |h |h);exact .inr (.inl h);exact .inl h;exact .inr (.inr h)
 ·rintro(h |h |h);exact .inr (.inl h);exact .inl h;exact .inr (.inr h)
theorem QK{σ τ:Type}{x:Option (σ⊕τ)}{B:σ→Prop}(h:∃r,x=some r∧∃s',r=Sum.inl s'∧B s'):∃s',x=some (.inl s')∧B s':=by
 obtain⟨r,h1,t,rfl,h2⟩:=h;exact⟨t,h1,h2⟩
theorem PC{σ τ:Type}{X o:Option (σ⊕τ)}{B:σ→Prop}(h:X=o)(h2:∃s',o=some (.inl s')∧B s'):∃s',X=some (.inl s')∧B s':=h▸h2
theorem PD{σ τ:Type}{X o:Option (σ⊕τ)}{B:τ→Prop}(h:X=o)(h2:∃s',o=some (.inr s')∧B s'):∃s',X=some (.inr s')∧B s':=h▸h2
section
variable {X β α:Type}
theorem E9(lt:α→α→Prop)(irr:∀a,¬lt a a)(asy:∀a b,lt a b→¬lt b a):∀(a b:List α),a.Pairwise lt→b.Pairwise lt→(∀x,x∈a↔x∈b)→a=b
 | [],[],_,_,_=>rfl
 | [],y::_,_,_,h=>absurd ((h y).2 (by simp)) (by simp)
 |x::_,[],_,_,h=>absurd ((h x).1 (by simp)) (by simp)
 |x::xs,y::ys,ha,hb,h=>by
  rw[List.pairwise_cons]at ha hb;have hxy:x=y:=by
   rcases List.mem_cons.1 ((h x).1 (by simp))with e |e
   ·exact e
   ·rcases List.mem_cons.1 ((h y).2 (by simp))with e' |e'
    ·exact e'.symm
    ·exact absurd (hb.1 x e) (asy _ _ (ha.1 y e'))
  subst hxy;rw[E9 lt irr asy xs ys ha.2 hb.2 fun z=>?_]
  constructor
  ·intro hz;rcases List.mem_cons.1 ((h z).1 (List.mem_cons_of_mem _ hz))with e |e
   ·subst e;exact absurd (ha.1 z hz) (irr z)
   ·exact e
  ·intro hz;rcases List.mem_cons.1 ((h z).2 (List.mem_cons_of_mem _ hz))with e |e
   ·subst e;exact absurd (hb.1 z hz) (irr z)
   ·exact e
theorem GA(m n b aj o:Nat)(i:Int)(k:Nat→Option β):(y4 m n b aj o i).run.bind k=if 0≤i∧i≤m then k i.toNat else none:=by
 show(if 0≤i∧i≤m then some i.toNat else none).bind k=_
 split<;>rfl
theorem GB(m n b aj o:Nat)(i:Int)(k:Nat→Option β):(y6 m n b aj o i).run.bind k=if 0<i∧i<m then k i.toNat else none:=by
 show(if 0<i∧i<m then some i.toNat else none).bind k=_
 split<;>rfl
end
theorem Nd(n:Nat)(c:V8 Int):pQ.S n c=some (lF c):=by
 show(xR c).run n=_;simp only[xR,G.run,aK,if_true,lF];by_cases h0:c.a0=0
 ·by_cases h1:c.a1=2
  all_goals (repeat (first |rw[if_pos (by first | (simp only[beq_iff_eq];omega) |omega)] |rw[if_neg (by first | (simp only[beq_iff_eq];omega) |omega)]))<;>rfl
 ·by_cases h3:c.a0=3
  ·by_cases h1:c.a1=12
   all_goals (repeat (first |rw[if_pos (by first | (simp only[beq_iff_eq];omega) |omega)] |rw[if_neg (by first | (simp only[beq_iff_eq];omega) |omega)]))<;>rfl
  ·by_cases h6:c.a0=6
   ·by_cases g0:c.a1=0
    ·(repeat (first |rw[if_pos (by first | (simp only[beq_iff_eq];omega) |omega)] |rw[if_neg (by first | (simp only[beq_iff_eq];omega) |omega)]))<;>rfl
    by_cases g1:c.a1=1
    ·(repeat (first |rw[if_pos (by first | (simp only[beq_iff_eq];omega) |omega)] |rw[if_neg (by first | (simp only[beq_iff_eq];omega) |omega)]))<;>rfl
    by_cases g2:c.a1=2
    ·(repeat (first |rw[if_pos (by first | (simp only[beq_iff_eq];omega) |omega)] |rw[if_neg (by first | (simp only[beq_iff_eq];omega) |omega)]))<;>rfl
    by_cases g3:c.a1=3
    ·(repeat (first |rw[if_pos (by first | (simp only[beq_iff_eq];omega) |omega)] |rw[if_neg (by first | (simp only[beq_iff_eq];omega) |omega)]))<;>rfl
    by_cases g6:c.a1=6
    all_goals (repeat (first |rw[if_pos (by first | (simp only[beq_iff_eq];omega) |omega)] |rw[if_neg (by first | (simp only[beq_iff_eq];omega) |omega)]))<;>rfl
   ·(repeat (first |rw[if_pos (by first | (simp only[beq_iff_eq];omega) |omega)] |rw[if_neg (by first | (simp only[beq_iff_eq];omega) |omega)]))<;>rfl
theorem Ko{n:Nat}(c:V8 Int){β:Type}(k:pQ.sh.El→Option β):(pQ.S n c).bind k=k (lF c):=by rw[Nd n];rfl
theorem OA{x:Int}(h0:0≤x)(h1:x<18446744073709551616):IntKind.wrap .u64 x=x:=by simp[IntKind.wrap,IntKind.bits,IntKind.signed];omega
def BI(a x:Int):Int:=IntKind.wrap .u64 ((IntKind.wrap .u64 (a*((2:Int) ^ (@Min.min Nat instMinNat (Int.toNat (8:Int)) (IntKind.bits .u64)))))+(IntKind.wrap .u64 x))
theorem Aa{a x:Int}(h0:0≤a)(h1:a<72057594037927936)(g0:0≤x)(g1:x<256):BI a x=a*256+x:=by
 unfold BI;have e:(2:Int) ^ (@Min.min Nat instMinNat (Int.toNat (8:Int)) (IntKind.bits .u64))=256:=by decide
 rw[e,OA (x:=a*256) (by omega) (by omega),OA (x:=x) (by omega) (by omega),OA (by omega) (by omega)]
theorem LM(n:Nat)(c:V8 Int)(h:E6 c):nA.S n c=some (sy c):=by
 obtain⟨h0,h1,h2,h3,h4,h5,h6,h7⟩:=h;show(uS c).run n=_;simp only[uS,G.run,aK,if_true];refine congrArg (some:Int→Option Int) ?_;show BI (BI (BI (BI (BI (BI 0 c.a2) c.a3) c.a4) c.a5) c.a6) c.a7=sy c;rw[Aa (a:=0) (by omega) (by omega) h2.1 h2.2,Aa (by omega) (by omega) h3.1 h3.2,Aa (by omega) (by omega) h4.1 h4.2,Aa (by omega) (by omega) h5.1 h5.2,Aa (by omega) (by omega) h6.1 h6.2,Aa (by omega) (by omega) h7.1 h7.2]
 unfold sy;omega
theorem I1{n:Nat}(c:V8 Int)(h:E6 c){β:Type}(k:nA.sh.El→Option β):(nA.S n c).bind k=k (sy c):=by rw[LM n c h];rfl
theorem Rc(x:Int):Int.fdiv x ((2:Int) ^ (@Min.min Nat instMinNat (Int.toNat (32:Int)) (IntKind.bits .u64)))=x / 4294967296:=by
 rw[Int.fdiv_eq_ediv_of_nonneg _ (by decide)];rfl
theorem LN{x:Int}:IntKind.wrap .u32 x=x % 4294967296:=by simp[IntKind.wrap,IntKind.bits,IntKind.signed]
theorem GC(l:List Int):(uniq l).length≤l.length:=by
 unfold uniq Lib.compact Lib.compactUpTo;rw[List.length_map];refine Nat.le_trans (List.length_filter_le _ _) ?_;simp
theorem OB{a:List Int}(l:List Int)(ha:a.Pairwise (fun a b=>a<b))(hm:∀x,x∈a↔x∈l):a=uniq l:=
 E9 (fun a b:Int=>a<b) (fun a=>Int.lt_irrefl a) (fun a b h=>by omega) a (uniq l) ha (De l) fun x=>by rw[hm,IZ]
theorem PE{c:V8 Int}(h:E6 c):fF c=if lF c=1∧sy c / 4294967296=65000 then some (IntKind.wrap .u32 (sy c))else none:=by
 obtain⟨h0,h1,h2,h3,h4,h5,h6,h7⟩:=h;unfold fF;have e1:jy (jy 0 c.a2) c.a3=sy c / 4294967296:=by rw[st2 h2 h3];unfold sy;omega
 have e2:IntKind.wrap .u32 (jy (jy (jy (jy 0 c.a4) c.a5) c.a6) c.a7)=IntKind.wrap .u32 (sy c):=by
  rw[Rn h4 h5 h6 h7,LN,LN];unfold sy;omega
 rw[e1,e2]
theorem FO(M:Nat)(l:List (V8 Int))(hl:l.length<100000)(hM:l.length+3<M)(hok:∀x∈l,E6 x):oV.S M l=some (uniq (l.filterMap fF)):=by
 show(tW l).run M=_;simp only[tW,G.run,aK,if_true,bK,bP,eH,gK,GA,GB,Gy,Gz,Na,Nb,Nc,Em,En,Ko];refine sN (I:=fun s=>∃i:Nat,s=((i:Int),uniq ((l.take i).filterMap fF))∧i≤l.length) (m:=fun s=>l.length - s.1.toNat) (Q:=fun(t:List Int)=>t=uniq (l.filterMap fF)) ⟨0,by rw[List.take_zero];exact congrArg (Prod.mk (0:Int)) (List.eq_nil_of_length_eq_zero (Nat.le_zero.1 (GC []))).symm,Nat.zero_le _⟩ (by simp;omega) (fun s hs=>?_) (fun t ht=>?_)
 ·obtain⟨i,rfl,hi⟩:=hs;by_cases he:i=l.length
  ·left;subst he;rw[if_neg (by simp)]
   exact⟨_,rfl,by rw[List.take_length]⟩
  ·right;have hil:i<l.length:=by omega
   have e1:ez l (i:Int)=some l[i]:=by rw[bg];exact List.getElem?_eq_getElem hil
   have okx:E6 l[i]:=hok _ (List.getElem_mem hil);have hts:=PE okx;have hst:=De ((l.take i).filterMap fF);have hmem:= @IZ ((l.take i).filterMap fF);have hlen:=Nat.le_trans (GC ((l.take i).filterMap fF)) (List.length_filterMap_le fF (l.take i));have hstep:(l.take (i+1)).filterMap fF=(l.take i).filterMap fF++(fF l[i]).toList:=by
    rw[List.take_add_one,List.filterMap_append,List.getElem?_eq_getElem hil];cases h:fF l[i]<;>simp[h]
   have w1:IntKind.wrap .i64 ((i:Int)+1)=((i+1:Nat):Int):=bA (by omega) (by omega)
   have fin0:∀out',out'=uniq ((l.take (i+1)).filterMap fF)→∃s':Int×List Int,(some (Sum.inl (((i+1:Nat):Int),out')):Option ((Int×List Int)⊕List Int))=some (Sum.inl s')∧(∃i:Nat,s'=((i:Int),uniq ((l.take i).filterMap fF))∧i≤l.length)∧l.length - s'.1.toNat<l.length - ((i:Int)).toNat:=fun out' h=>by
    subst h;exact⟨_,rfl,⟨i+1,rfl,by omega⟩,by simp only[Int.toNat_natCast];omega⟩
   rw[if_pos (by simp;omega),e1]
   simp only[Option.bind_some];refine PC (I1 _ okx _) ?_;simp only[Rc,w1];by_cases hk:lF l[i]=1
   ·rw[if_neg (by simpa using hk)]
    by_cases hf:sy l[i] / 4294967296=65000
    ·rw[if_neg (by simpa using hf)]
     rw[if_pos ⟨hk,hf⟩]at hts;generalize IntKind.wrap .u32 (sy l[i])=x at*;have hnew:∀out',out'.Pairwise (fun a b=>a<b)→(∀y,y∈out'↔y=x∨y∈uniq ((l.take i).filterMap fF))→out'=uniq ((l.take (i+1)).filterMap fF):=fun out' h1 h2=>by
      refine OB _ h1 fun y=>?_
      rw[h2,hmem,hstep,List.mem_append,hts];simp[or_comm]
     simp only[List.length_take]at hlen;generalize uniq ((l.take i).filterMap fF)=out at*;refine QK (Oz (I:=fun s=>∃j:Nat,s=(j:Int)∧j≤out.length∧∀q (h:q<out.length),q<j→out[q]<x) (m:=fun s=>out.length - s.toNat) (Q:=fun(t:Int)=>∃k:Nat,t=(k:Int)∧k≤out.length∧(∀q (h:q<out.length),q<k→out[q]<x)∧∀h:k<out.length,¬out[k]<x)
      ⟨0,rfl,Nat.zero_le _,fun q _ h=>absurd h (Nat.not_lt_zero _)⟩ (by show out.length - (0:Int).toNat<M;omega) (fun s hs=>?_) (fun t ht=>?_))
     ·obtain⟨j,rfl,hj,hlo⟩:=hs;by_cases hjl:j<out.length
      ·rw[if_pos (by simp;omega),if_pos (by omega),Int.toNat_natCast,List.getElem?_eq_getElem hjl]
       simp only[Option.bind_some];by_cases hc:out[j]<x
       ·right;rw[if_pos (by simpa using hc),bA (x:=(j:Int)+1) (n:=j+1) (by omega) (by omega)]
        refine⟨_,rfl,⟨j+1,rfl,by omega,fun q h hq=>?_⟩,by simp only[Int.toNat_natCast];omega⟩
        by_cases e:q=j
        ·subst e;exact hc
        ·exact hlo q h (by omega)
       ·left;rw[if_neg (by simpa using hc)]
        exact⟨_,rfl,j,rfl,hj,hlo,fun _=>hc⟩
      ·left;rw[if_neg (by simp;omega)]
       exact⟨_,rfl,j,rfl,hj,hlo,fun h=>absurd h hjl⟩
     ·obtain⟨k,rfl,hk,hlo,hhi⟩:=ht;simp only[GA,GB,Gy,Gz,eH,w1,Int.toNat_natCast,decide_eq_true_eq];have fin:∀out',out'=uniq ((l.take (i+1)).filterMap fF)→∃r:(Int×List Int)⊕List Int,some (Sum.inl (((i+1:Nat):Int),out'))=some r∧∃s',r=Sum.inl s'∧(∃i:Nat,s'=((i:Int),uniq ((l.take i).filterMap fF))∧i≤l.length)∧l.length - s'.1.toNat<l.length - ((i:Int)).toNat:=fun out' h=>by
       subst h;exact⟨_,rfl,_,rfl,⟨i+1,rfl,by omega⟩,by simp only[Int.toNat_natCast];omega⟩
      by_cases hkl:k=out.length
      ·subst hkl;rw[if_pos (by simp),if_pos (by omega)]
       have hins:out++[x]=uniq ((l.take (i+1)).filterMap fF):=hnew _ (by
        have:=E8 (fun a b:Int=>a<b) (fun a b c=>Int.lt_trans) (Nat.le_refl _) hst hlo (fun h=>absurd h (Nat.lt_irrefl _))
        simpa using this) (fun y=>by simp[or_comm])
       by_cases h0:out.length=0
       ·have:out=[]:=List.eq_nil_of_length_eq_zero h0;subst this;rw[if_pos (by simp),if_pos (by simp),if_pos ⟨⟨rfl,by simp⟩,by simp[roomy]⟩,if_pos ⟨⟨by simp,by simp⟩,by simp[roomy]⟩]
        exact fin _ (by simpa using hins)
       ·rw[if_neg (by omega),if_neg (by omega),if_pos (by omega),if_pos ⟨Nat.le_refl _,by simp[roomy];omega⟩]
        exact fin _ (by simpa using hins)
      ·have hlt:k<out.length:=by omega
       rw[if_neg (by simp;omega),if_pos (by omega),List.getElem?_eq_getElem hlt]
       simp only[Option.bind_some];by_cases hx:out[k]=x
       ·rw[if_neg (by simpa using hx)]
        exact fin _ (hnew _ hst fun y=>⟨.inr,fun h=>by rcases h with rfl |h;rw[← hx];exact List.getElem_mem hlt;exact h⟩)
       ·have hgt:x<out[k]:=by have:=hhi hlt;omega
        have hins:out.take k++x::out.drop k=uniq ((l.take (i+1)).filterMap fF):=hnew _ (E8 (fun a b:Int=>a<b) (fun a b c=>Int.lt_trans) (by omega) hst hlo (fun _=>hgt)) (fun y=>PB k)
        rw[if_pos (by simpa using hx),if_pos (by omega)]
        have hd:List.take (out.length - k) (List.drop k out)=List.drop k out:=List.take_of_length_le (by simp)
        by_cases h0:k=0
        ·subst h0;rw[if_pos (by omega),if_pos (by omega),if_pos ⟨⟨rfl,by omega⟩,by simp[roomy];omega⟩,if_pos ⟨⟨by omega,by omega⟩,by simp[roomy];omega⟩]
         exact fin _ (by simpa using hins)
        ·rw[if_neg (by omega),if_pos (by omega),if_pos (by omega),if_pos ⟨⟨rfl,by omega⟩,by simp[roomy];omega⟩,if_pos ⟨⟨by omega,by omega⟩,by simp[roomy];omega⟩]
         exact fin _ (by rw[Nat.zero_add,hd,List.drop_zero,List.take_length];exact hins)
    ·rw[if_pos (by simpa using hf)]
     rw[if_neg (fun q=>hf q.2)]at hts
     exact fin0 _ (by rw[hstep,hts];simp)
   ·rw[if_pos (by simpa using hk)]
    rw[if_neg (fun q=>hk q.1)]at hts
    exact fin0 _ (by rw[hstep,hts];simp)
 ·subst ht;exact if_pos (by simp[ff])
theorem Nf(N:Nat)(l:List (V8 Int))(K:Int)(hl:l.length<100000)(hN:l.length<N)(hok:∀x∈l,E6 x):A5.S N (l,K)=some (match mg l K with |some c=>(sy c,true) |none=>((0:Int),false)):=by
 show(vU l K).run N=_;simp only[vU,G.run,aK,if_true,bK,bP,Ko];refine sN (I:=fun s=>∃i:Nat,s=(i:Int)∧i≤l.length∧mg (l.take i) K=none) (m:=fun s=>l.length - s.toNat) (Q:=fun(t:Int⊕Unit)=>(∃c,mg l K=some c∧t=.inl (sy c))∨(mg l K=none∧t=.inr ())) ⟨0,rfl,Nat.zero_le _,rfl⟩ (by simp;omega) (fun s hs=>?_) (fun t ht=>?_)
 ·obtain⟨i,rfl,hi,hno⟩:=hs;by_cases he:i=l.length
  ·left;subst he;rw[if_neg (by simp)]
   exact⟨_,rfl,.inr ⟨by rwa[List.take_length]at hno,rfl⟩⟩
  ·have hil:i<l.length:=by omega
   have e1:ez l (i:Int)=some l[i]:=by rw[bg];exact List.getElem?_eq_getElem hil
   rw[if_pos (by simp;omega),e1]
   simp only[Option.bind_some,bA (x:=(i:Int)+1) (n:=i+1) (by omega) (by omega)]
   by_cases hx:lF l[i]=K
   ·left;rw[if_pos (by simpa using hx)]
    refine PD (I1 _ (hok _ (List.getElem_mem hil)) _) ?_;exact⟨_,rfl,.inl ⟨l[i],Dg hil hno hx,rfl⟩⟩
   ·right;rw[if_neg (by simpa using hx)]
    exact⟨_,rfl,⟨i+1,rfl,by omega,Df hil hno hx⟩,by simp only[Int.toNat_natCast];omega⟩
 ·rcases ht with⟨c,h,rfl⟩ |⟨h,rfl⟩
  ·rw[h];rfl
  ·rw[h];rfl
end Go.L
end
