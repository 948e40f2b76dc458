/- Parts put together. No conditions. -/
import Derived.Test.YtiohninblcifpaaGreatDoorPTt0
import Derived.Test.YtiohninblcifpaaGreatDoorPa
import Derived.Test.YtiohninblcifpaaGreatDoorWx
import Derived.Test.YtiohninblcifpaaGreatDoorPs
set_option linter.unusedSimpArgs false
set_option linter.unusedVariables false
set_option maxRecDepth 100000
section
namespace Go.L
open Go.AM
def E5(x:V8 Int):Prop:=(0≤x.a0∧x.a0<256)∧(0≤x.a1∧x.a1<256)∧(0≤x.a2∧x.a2<256)∧(0≤x.a3∧x.a3<256)∧(0≤x.a4∧x.a4<256)∧(0≤x.a5∧x.a5<256)∧(0≤x.a6∧x.a6<256)∧(0≤x.a7∧x.a7<256)
theorem BR{a x:Int}(h0:0≤a)(h1:a<72057594037927936)(g0:0≤x)(g1:x<256):kg a x=a*256+x:=by
 obtain⟨p,rfl⟩:=Int.eq_ofNat_of_zero_le h0;obtain⟨q,rfl⟩:=Int.eq_ofNat_of_zero_le g0;have e1:IntKind.wrap .u64 ((p:Int)*((2:Int) ^ (@Min.min Nat instMinNat (Int.toNat (8:Int)) (IntKind.bits .u64))))=((2 ^ 8*p:Nat):Int):=by
  simp[IntKind.wrap,IntKind.bits,IntKind.signed];omega
 have e2:IntKind.wrap .u64 (q:Int)=(q:Int):=by
  simp[IntKind.wrap,IntKind.bits,IntKind.signed];omega
 unfold kg;rw[e1,e2];have hor:2 ^ 8*p|||q=2 ^ 8*p+q:=(Nat.two_pow_add_eq_or_of_lt (i:=8) (by omega) p).symm
 have e3:((BitVec.ofInt (IntKind.bits .u64) ((2 ^ 8*p:Nat):Int))||| (BitVec.ofInt (IntKind.bits .u64) (q:Int))).toNat=2 ^ 8*p+q:=by
  rw[BitVec.toNat_or,BitVec.ofInt_natCast,BitVec.ofInt_natCast,BitVec.toNat_ofNat,BitVec.toNat_ofNat,Nat.mod_eq_of_lt,Nat.mod_eq_of_lt,hor]
  ·simp only[IntKind.bits];omega
  ·simp only[IntKind.bits];omega
 rw[e3];simp[IntKind.wrap,IntKind.bits,IntKind.signed];omega
theorem st2{a b:Int}(ha:0≤a∧a<256)(hb:0≤b∧b<256):kg (kg 0 a) b=a*256+b:=by
 rw[BR (a:=0) (by omega) (by omega) ha.1 ha.2,BR (by omega) (by omega) hb.1 hb.2];omega
theorem UX{a b c:Int}(ha:0≤a∧a<256)(hb:0≤b∧b<256)(hc:0≤c∧c<256):kg (kg (kg 0 a) b) c=(a*256+b)*256+c:=by
 rw[st2 ha hb,BR (by omega) (by omega) hc.1 hc.2]
theorem Ur{a b c d:Int}(ha:0≤a∧a<256)(hb:0≤b∧b<256)(hc:0≤c∧c<256)(hd:0≤d∧d<256):kg (kg (kg (kg 0 a) b) c) d=((a*256+b)*256+c)*256+d:=by
 rw[UX ha hb hc,BR (by omega) (by omega) hd.1 hd.2]
def tF(c:V8 Int):Int:=((((c.a2*256+c.a3)*256+c.a4)*256+c.a5)*256+c.a6)*256+c.a7
def K0(c:V8 Int):Int:=kg (kg (kg (kg (kg (kg 0 c.a2) c.a3) c.a4) c.a5) c.a6) c.a7
theorem UY{c:V8 Int}(h:E5 c):K0 c=tF c:=by
 obtain⟨h0,h1,h2,h3,h4,h5,h6,h7⟩:=h;unfold K0;rw[Ur h2 h3 h4 h5,BR (by omega) (by omega) h6.1 h6.2,BR (by omega) (by omega) h7.1 h7.2]
 unfold tF;omega
def lJ(l:List (V8 Int))(K:Int):Option (V8 Int):=l.find? fun c=>oG c==K
theorem LR{l:List (V8 Int)}{K:Int}{i:Nat}(hi:i<l.length)(h:lJ (l.take i) K=none)(hk:¬oG l[i]=K):lJ (l.take (i+1)) K=none:=by
 unfold lJ at*;rw[List.take_add_one,List.getElem?_eq_getElem hi,List.find?_append,h];simp[hk]
theorem LS{l:List (V8 Int)}{K:Int}{i:Nat}(hi:i<l.length)(h:lJ (l.take i) K=none)(hk:oG l[i]=K):lJ l K=some l[i]:=by
 unfold lJ at*;have e:l=l.take i++l[i]::l.drop (i+1):=by rw[← List.drop_eq_getElem_cons hi,List.take_append_drop]
 conv=>lhs;rw[e]
 rw[List.find?_append,h,Option.none_or,List.find?_cons];simp[hk]
theorem NZ{l:List (V8 Int)}{K:Int}{c:V8 Int}(h:lJ l K=some c):c∈l:=List.mem_of_find?_eq_some h
theorem Rh(n:Nat)(c:V8 Int):A9.S n c=some (K0 c):=by
 show(tS c).run n=_;simp only[tS,G.run,aO,if_true];rfl
def CU(l:List (V8 Int)):Int×Bool:=match lJ l 6 with |some c=>(K0 c,true) |none=>((0:Int),false)
theorem UI(n:Nat)(l:List (V8 Int))(hl:l.length<100000)(hn:l.length<n):At (dZ.S n l) (fun(r:Int×Bool)=>r=CU l):=by
 refine(?_ :cF n (nS l) _);unfold nS;refine .skip (.inl (.skip (.op () rfl (.skip (.loop (fun a:Int=>dI l (fun pre (_:Unit)=>lJ pre 6=none) (a,())) (fun a=>l.length - a.toNat) (Sum.elim (fun(t:Int)=>CU l=(t,true)) fun _=>CU l=(0,false)) rfl (dI.start rfl) (by simpa using hn) (fun a ha=>?_) (fun t ht=>?_))))))
 ·refine .skip (.br (fun h=>?_) fun h=>.skip (.done rfl ?_))
  ·obtain⟨x,pre,h1,h2,h3,⟨_,post,hp⟩,h5⟩:=ha.get h;refine .skip (.op x h1 (.skip (.call (fun(k:Int)=>k=oG x) ⟨_,KZ n x,rfl⟩ fun(k:Int) hk=>.skip (.br (fun g=>?_) fun g=>.skip (.done rfl (h5 hl () ?_))))))
   ·refine .skip (.call (fun(r:Int)=>r=K0 x) ⟨_,Rh n x,rfl⟩ fun(r:Int) hr=>.skip (.done rfl ?_))
    simp only[beq_iff_eq]at g;have:lJ l 6=some x:=by
     unfold lJ at*;rw[hp,List.find?_append,h3];simp[← hk,g]
    show CU l=(r,true);unfold CU;rw[this,hr]
   ·rw[beq_eq_false_iff_ne]at g;unfold lJ at*;rw[List.find?_append,h3];simp[← hk,g]
  ·have:=ha.fin h;show CU l=(0,false);unfold CU;rw[this]
 ·cases t with
  |inl t=>exact .tidy rfl (.inl (.skip (.done rfl (Eq.symm ht))))
  |inr t=>exact .skip (.tidy rfl (.inl (.skip (.done rfl (Eq.symm ht)))))
end Go.L
end
section
namespace Go.L
open Go.AM Go.Sort
theorem Rq{σ τ β:Type}{f:σ→Option (σ⊕τ)}{k:τ→Option β}{N:Nat}{s:σ}{P:β→Prop}(I:σ→Prop)(m:σ→Nat)(Q:τ→Prop)(hI:I s)(hm:m s<N)
 (step:∀s,I s→(∃t,f s=some (.inr t)∧Q t)∨∃s',f s=some (.inl s')∧I s'∧m s'<m s) (hk:∀t,Q t→∃r,k t=some r∧P r):∃r,(bV f N s).bind k=some r∧P r:=by
 obtain⟨t,e,hq⟩:=HC I m Q step N s hI hm;rw[e];exact hk t hq
section
variable {X β:Type}
theorem ID(m n b ak o:Nat)(i:Int)(k:Unit→Option β):(QD m n b ak o i).run.bind k=if i=0 then k ()else none:=by
 show(if i=0 then some ()else none).bind k=_
 split<;>rfl
theorem IE(m n b ak o:Nat)(i:Int)(k:Unit→Option β):(QE m n b ak o i).run.bind k=if i=m∧0<m then k ()else none:=by
 show(if i=m∧0<m then some ()else none).bind k=_
 split<;>rfl
theorem PT(len:Nat)(l m:List X)(e:X→List AVal)(n by_ b ak nid:Nat)(ids:List Nat)(k:Unit→Option β):(Qy len l m e n by_ b ak nid ids).run.bind k=if len≤l.length∧roomy (len+m.length) by_=true then k ()else none:=by
 show(if len≤l.length∧roomy (len+m.length) by_=true then some ()else none).bind k=_
 split<;>rfl
theorem PV(len:Nat)(l l2:List X)(b2 ver2 o2 n2:Nat)(e:X→List AVal)(n by_ b ak nid:Nat)(k:Unit→Option β):(J1 len l l2 b2 ver2 o2 n2 e n by_ b ak nid).run.bind k=if(len=l.length∧o2+n2≤l2.length)∧roomy (l.length+n2) by_=true then k ()else none:=by
 show(if(len=l.length∧o2+n2≤l2.length)∧roomy (l.length+n2) by_=true then some ()else none).bind k=_
 split<;>rfl
theorem PW(len:Nat)(l l2:List X)(b2 ver2 o2 n2:Nat)(e:X→List AVal)(n by_ b ak nid:Nat)(k:Unit→Option β):(J2 len l l2 b2 ver2 o2 n2 e n by_ b ak nid).run.bind k=if(len≤l.length∧o2+n2≤l2.length)∧roomy (len+n2) by_=true then k ()else none:=by
 show(if(len≤l.length∧o2+n2≤l2.length)∧roomy (len+n2) by_=true then some ()else none).bind k=_
 split<;>rfl
end
theorem G3{α:Type}(lt:α→α→Prop)(tr:∀a b c,lt a b→lt b c→lt a c){out:List α}{x:α}{k:Nat}(hk:k≤out.length)(hp:out.Pairwise lt)(hlo:∀j (h:j<out.length),j<k→lt out[j] x)(hhi:∀h:k<out.length,lt x out[k]):
 (out.take k++x::out.drop k).Pairwise lt:=by
 have hi:∀y∈out.drop k,lt x y:=fun y hy=>by
  obtain⟨i,h1,rfl⟩:=List.getElem_of_mem hy;simp only[List.length_drop]at h1;rw[List.getElem_drop];by_cases h0:i=0
  ·subst h0;exact hhi (by omega)
  ·exact tr _ _ _ (hhi (by omega)) (List.pairwise_iff_getElem.1 hp k (k+i) (by omega) (by omega) (by omega))
 rw[List.pairwise_append];refine⟨hp.sublist (List.take_sublist _ _),List.pairwise_cons.2 ⟨hi,hp.sublist (List.drop_sublist _ _)⟩,fun a ha b hb=>?_⟩
 obtain⟨j,h1,rfl⟩:=List.getElem_of_mem ha;simp only[List.length_take]at h1;rw[List.getElem_take];have hax:=hlo j (by omega) (by omega)
 rcases List.mem_cons.1 hb with rfl |hb
 ·exact hax
 ·exact tr _ _ _ hax (hi b hb)
theorem SI{α:Type}{out:List α}{x y:α}(k:Nat):y∈out.take k++x::out.drop k↔y=x∨y∈out:=by
 rw[List.mem_append,List.mem_cons]
 conv=>rhs;rw[← List.take_append_drop k out,List.mem_append]
 constructor
 ·rintro(h |h |h);exact .inr (.inl h);exact .inl h;exact .inr (.inr h)
 ·rintro(h |h |h);exact .inr (.inl h);exact .inl h;exact .inr (.inr h)
theorem TQ{σ τ:Type}{x:Option (σ⊕τ)}{B:σ→Prop}(h:∃r,x=some r∧∃s',r=Sum.inl s'∧B s'):∃s',x=some (.inl s')∧B s':=by
 obtain⟨r,h1,t,rfl,h2⟩:=h;exact⟨t,h1,h2⟩
theorem SJ{σ τ:Type}{X o:Option (σ⊕τ)}{B:σ→Prop}(h:X=o)(h2:∃s',o=some (.inl s')∧B s'):∃s',X=some (.inl s')∧B s':=h▸h2
theorem SK{σ τ:Type}{X o:Option (σ⊕τ)}{B:τ→Prop}(h:X=o)(h2:∃s',o=some (.inr s')∧B s'):∃s',X=some (.inr s')∧B s':=h▸h2
section
variable {X β α:Type}
theorem G4(lt:α→α→Prop)(irr:∀a,¬lt a a)(asy:∀a b,lt a b→¬lt b a):∀(a b:List α),a.Pairwise lt→b.Pairwise lt→(∀x,x∈a↔x∈b)→a=b
 | [],[],_,_,_=>rfl
 | [],y::_,_,_,h=>absurd ((h y).2 (by simp)) (by simp)
 |x::_,[],_,_,h=>absurd ((h x).1 (by simp)) (by simp)
 |x::xs,y::ys,ha,hb,h=>by
  rw[List.pairwise_cons]at ha hb;have hxy:x=y:=by
   rcases List.mem_cons.1 ((h x).1 (by simp))with e |e
   ·exact e
   ·rcases List.mem_cons.1 ((h y).2 (by simp))with e' |e'
    ·exact e'.symm
    ·exact absurd (hb.1 x e) (asy _ _ (ha.1 y e'))
  subst hxy;rw[G4 lt irr asy xs ys ha.2 hb.2 fun z=>?_]
  constructor
  ·intro hz;rcases List.mem_cons.1 ((h z).1 (List.mem_cons_of_mem _ hz))with e |e
   ·subst e;exact absurd (ha.1 z hz) (irr z)
   ·exact e
  ·intro hz;rcases List.mem_cons.1 ((h z).2 (List.mem_cons_of_mem _ hz))with e |e
   ·subst e;exact absurd (hb.1 z hz) (irr z)
   ·exact e
theorem IF(m n b ak o:Nat)(i:Int)(k:Nat→Option β):(QB m n b ak o i).run.bind k=if 0≤i∧i≤m then k i.toNat else none:=by
 show(if 0≤i∧i≤m then some i.toNat else none).bind k=_
 split<;>rfl
theorem IG(m n b ak o:Nat)(i:Int)(k:Nat→Option β):(QC m n b ak o i).run.bind k=if 0<i∧i<m then k i.toNat else none:=by
 show(if 0<i∧i<m then some i.toNat else none).bind k=_
 split<;>rfl
end
theorem PX(n:Nat)(c:V8 Int):sk.S n c=some (oG c):=by
 show(Al c).run n=_;simp only[Al,G.run,aO,if_true,oG];by_cases h0:c.a0=0
 ·by_cases h1:c.a1=2
  all_goals (repeat (first |rw[if_pos (by first | (simp only[beq_iff_eq];omega) |omega)] |rw[if_neg (by first | (simp only[beq_iff_eq];omega) |omega)]))<;>rfl
 ·by_cases h3:c.a0=3
  ·by_cases h1:c.a1=12
   all_goals (repeat (first |rw[if_pos (by first | (simp only[beq_iff_eq];omega) |omega)] |rw[if_neg (by first | (simp only[beq_iff_eq];omega) |omega)]))<;>rfl
  ·by_cases h6:c.a0=6
   ·by_cases g0:c.a1=0
    ·(repeat (first |rw[if_pos (by first | (simp only[beq_iff_eq];omega) |omega)] |rw[if_neg (by first | (simp only[beq_iff_eq];omega) |omega)]))<;>rfl
    by_cases g1:c.a1=1
    ·(repeat (first |rw[if_pos (by first | (simp only[beq_iff_eq];omega) |omega)] |rw[if_neg (by first | (simp only[beq_iff_eq];omega) |omega)]))<;>rfl
    by_cases g2:c.a1=2
    ·(repeat (first |rw[if_pos (by first | (simp only[beq_iff_eq];omega) |omega)] |rw[if_neg (by first | (simp only[beq_iff_eq];omega) |omega)]))<;>rfl
    by_cases g3:c.a1=3
    ·(repeat (first |rw[if_pos (by first | (simp only[beq_iff_eq];omega) |omega)] |rw[if_neg (by first | (simp only[beq_iff_eq];omega) |omega)]))<;>rfl
    by_cases g6:c.a1=6
    all_goals (repeat (first |rw[if_pos (by first | (simp only[beq_iff_eq];omega) |omega)] |rw[if_neg (by first | (simp only[beq_iff_eq];omega) |omega)]))<;>rfl
   ·(repeat (first |rw[if_pos (by first | (simp only[beq_iff_eq];omega) |omega)] |rw[if_neg (by first | (simp only[beq_iff_eq];omega) |omega)]))<;>rfl
theorem Mv{n:Nat}(c:V8 Int){β:Type}(k:sk.sh.El→Option β):(sk.S n c).bind k=k (oG c):=by rw[PX n];rfl
theorem Rr{x:Int}(h0:0≤x)(h1:x<18446744073709551616):IntKind.wrap .u64 x=x:=by simp[IntKind.wrap,IntKind.bits,IntKind.signed];omega
def Dv(a x:Int):Int:=IntKind.wrap .u64 ((IntKind.wrap .u64 (a*((2:Int) ^ (@Min.min Nat instMinNat (Int.toNat (8:Int)) (IntKind.bits .u64)))))+(IntKind.wrap .u64 x))
theorem BU{a x:Int}(h0:0≤a)(h1:a<72057594037927936)(g0:0≤x)(g1:x<256):Dv a x=a*256+x:=by
 unfold Dv;have e:(2:Int) ^ (@Min.min Nat instMinNat (Int.toNat (8:Int)) (IntKind.bits .u64))=256:=by decide
 rw[e,Rr (x:=a*256) (by omega) (by omega),Rr (x:=x) (by omega) (by omega),Rr (by omega) (by omega)]
theorem Oc(n:Nat)(c:V8 Int)(h:E5 c):pF.S n c=some (tF c):=by
 obtain⟨h0,h1,h2,h3,h4,h5,h6,h7⟩:=h;show(xb c).run n=_;simp only[xb,G.run,aO,if_true];refine congrArg (some:Int→Option Int) ?_;show Dv (Dv (Dv (Dv (Dv (Dv 0 c.a2) c.a3) c.a4) c.a5) c.a6) c.a7=tF c;rw[BU (a:=0) (by omega) (by omega) h2.1 h2.2,BU (by omega) (by omega) h3.1 h3.2,BU (by omega) (by omega) h4.1 h4.2,BU (by omega) (by omega) h5.1 h5.2,BU (by omega) (by omega) h6.1 h6.2,BU (by omega) (by omega) h7.1 h7.2]
 unfold tF;omega
theorem K8{n:Nat}(c:V8 Int)(h:E5 c){β:Type}(k:pF.sh.El→Option β):(pF.S n c).bind k=k (tF c):=by rw[Oc n c h];rfl
theorem Uj(x:Int):Int.fdiv x ((2:Int) ^ (@Min.min Nat instMinNat (Int.toNat (32:Int)) (IntKind.bits .u64)))=x / 4294967296:=by
 rw[Int.fdiv_eq_ediv_of_nonneg _ (by decide)];rfl
theorem TR{x:Int}:IntKind.wrap .u32 x=x % 4294967296:=by simp[IntKind.wrap,IntKind.bits,IntKind.signed]
theorem D0(l:List Int):(uniq l).length≤l.length:=by
 unfold uniq Lib.compact Lib.compactUpTo;rw[List.length_map];refine Nat.le_trans (List.length_filter_le _ _) ?_;simp
theorem Rs{a:List Int}(l:List Int)(ha:a.Pairwise (fun a b=>a<b))(hm:∀x,x∈a↔x∈l):a=uniq l:=
 G4 (fun a b:Int=>a<b) (fun a=>Int.lt_irrefl a) (fun a b h=>by omega) a (uniq l) ha (E7 l) fun x=>by rw[hm,K7]
theorem SL{c:V8 Int}(h:E5 c):gj c=if oG c=1∧tF c / 4294967296=65000 then some (IntKind.wrap .u32 (tF c))else none:=by
 obtain⟨h0,h1,h2,h3,h4,h5,h6,h7⟩:=h;unfold gj;have e1:kg (kg 0 c.a2) c.a3=tF c / 4294967296:=by rw[st2 h2 h3];unfold tF;omega
 have e2:IntKind.wrap .u32 (kg (kg (kg (kg 0 c.a4) c.a5) c.a6) c.a7)=IntKind.wrap .u32 (tF c):=by
  rw[Ur h4 h5 h6 h7,TR,TR];unfold tF;omega
 rw[e1,e2]
theorem HF(M:Nat)(l:List (V8 Int))(hl:l.length<100000)(hM:l.length+3<M)(hok:∀x∈l,E5 x):lT.S M l=some (uniq (l.filterMap gj)):=by
 show(vU l).run M=_;simp only[vU,G.run,aO,if_true,bY,cw,fS,iN,IF,IG,ID,IE,PT,PV,PW,S6,S7,Mv];refine uW (I:=fun s=>∃i:Nat,s=((i:Int),uniq ((l.take i).filterMap gj))∧i≤l.length) (m:=fun s=>l.length - s.1.toNat) (Q:=fun(t:List Int)=>t=uniq (l.filterMap gj)) ⟨0,by rw[List.take_zero];exact congrArg (Prod.mk (0:Int)) (List.eq_nil_of_length_eq_zero (Nat.le_zero.1 (D0 []))).symm,Nat.zero_le _⟩ (by simp;omega) (fun s hs=>?_) (fun t ht=>?_)
 ·obtain⟨i,rfl,hi⟩:=hs;by_cases he:i=l.length
  ·left;subst he;rw[if_neg (by simp)]
   exact⟨_,rfl,by rw[List.take_length]⟩
  ·right;have hil:i<l.length:=by omega
   have e1:gv l (i:Int)=some l[i]:=by rw[bN];exact List.getElem?_eq_getElem hil
   have okx:E5 l[i]:=hok _ (List.getElem_mem hil);have hts:=SL okx;have hst:=E7 ((l.take i).filterMap gj);have hmem:= @K7 ((l.take i).filterMap gj);have hlen:=Nat.le_trans (D0 ((l.take i).filterMap gj)) (List.length_filterMap_le gj (l.take i));have hstep:(l.take (i+1)).filterMap gj=(l.take i).filterMap gj++(gj l[i]).toList:=by
    rw[List.take_add_one,List.filterMap_append,List.getElem?_eq_getElem hil];cases h:gj l[i]<;>simp[h]
   have w1:IntKind.wrap .i64 ((i:Int)+1)=((i+1:Nat):Int):=bJ (by omega) (by omega)
   have fin0:∀out',out'=uniq ((l.take (i+1)).filterMap gj)→∃s':Int×List Int,(some (Sum.inl (((i+1:Nat):Int),out')):Option ((Int×List Int)⊕List Int))=some (Sum.inl s')∧(∃i:Nat,s'=((i:Int),uniq ((l.take i).filterMap gj))∧i≤l.length)∧l.length - s'.1.toNat<l.length - ((i:Int)).toNat:=fun out' h=>by
    subst h;exact⟨_,rfl,⟨i+1,rfl,by omega⟩,by simp only[Int.toNat_natCast];omega⟩
   rw[if_pos (by simp;omega),e1]
   simp only[Option.bind_some];refine SJ (K8 _ okx _) ?_;simp only[Uj,w1];by_cases hk:oG l[i]=1
   ·rw[if_neg (by simpa using hk)]
    by_cases hf:tF l[i] / 4294967296=65000
    ·rw[if_neg (by simpa using hf)]
     rw[if_pos ⟨hk,hf⟩]at hts;generalize IntKind.wrap .u32 (tF l[i])=x at*;have hnew:∀out',out'.Pairwise (fun a b=>a<b)→(∀y,y∈out'↔y=x∨y∈uniq ((l.take i).filterMap gj))→out'=uniq ((l.take (i+1)).filterMap gj):=fun out' h1 h2=>by
      refine Rs _ h1 fun y=>?_
      rw[h2,hmem,hstep,List.mem_append,hts];simp[or_comm]
     simp only[List.length_take]at hlen;generalize uniq ((l.take i).filterMap gj)=out at*;refine TQ (Rq (I:=fun s=>∃j:Nat,s=(j:Int)∧j≤out.length∧∀q (h:q<out.length),q<j→out[q]<x) (m:=fun s=>out.length - s.toNat) (Q:=fun(t:Int)=>∃k:Nat,t=(k:Int)∧k≤out.length∧(∀q (h:q<out.length),q<k→out[q]<x)∧∀h:k<out.length,¬out[k]<x)
      ⟨0,rfl,Nat.zero_le _,fun q _ h=>absurd h (Nat.not_lt_zero _)⟩ (by show out.length - (0:Int).toNat<M;omega) (fun s hs=>?_) (fun t ht=>?_))
     ·obtain⟨j,rfl,hj,hlo⟩:=hs;by_cases hjl:j<out.length
      ·rw[if_pos (by simp;omega),if_pos (by omega),Int.toNat_natCast,List.getElem?_eq_getElem hjl]
       simp only[Option.bind_some];by_cases hc:out[j]<x
       ·right;rw[if_pos (by simpa using hc),bJ (x:=(j:Int)+1) (n:=j+1) (by omega) (by omega)]
        refine⟨_,rfl,⟨j+1,rfl,by omega,fun q h hq=>?_⟩,by simp only[Int.toNat_natCast];omega⟩
        by_cases e:q=j
        ·subst e;exact hc
        ·exact hlo q h (by omega)
       ·left;rw[if_neg (by simpa using hc)]
        exact⟨_,rfl,j,rfl,hj,hlo,fun _=>hc⟩
      ·left;rw[if_neg (by simp;omega)]
       exact⟨_,rfl,j,rfl,hj,hlo,fun h=>absurd h hjl⟩
     ·obtain⟨k,rfl,hk,hlo,hhi⟩:=ht;simp only[IF,IG,ID,IE,fS,w1,Int.toNat_natCast,decide_eq_true_eq];have fin:∀out',out'=uniq ((l.take (i+1)).filterMap gj)→∃r:(Int×List Int)⊕List Int,some (Sum.inl (((i+1:Nat):Int),out'))=some r∧∃s',r=Sum.inl s'∧(∃i:Nat,s'=((i:Int),uniq ((l.take i).filterMap gj))∧i≤l.length)∧l.length - s'.1.toNat<l.length - ((i:Int)).toNat:=fun out' h=>by
       subst h;exact⟨_,rfl,_,rfl,⟨i+1,rfl,by omega⟩,by simp only[Int.toNat_natCast];omega⟩
      by_cases hkl:k=out.length
      ·subst hkl;rw[if_pos (by simp),if_pos (by omega)]
       have hins:out++[x]=uniq ((l.take (i+1)).filterMap gj):=hnew _ (by
        have:=G3 (fun a b:Int=>a<b) (fun a b c=>Int.lt_trans) (Nat.le_refl _) hst hlo (fun h=>absurd h (Nat.lt_irrefl _))
        simpa using this) (fun y=>by simp[or_comm])
       by_cases h0:out.length=0
       ·have:out=[]:=List.eq_nil_of_length_eq_zero h0;subst this;rw[if_pos (by simp),if_pos (by simp),if_pos ⟨⟨rfl,by simp⟩,by simp[roomy]⟩,if_pos ⟨⟨by simp,by simp⟩,by simp[roomy]⟩]
        exact fin _ (by simpa using hins)
       ·rw[if_neg (by omega),if_neg (by omega),if_pos (by omega),if_pos ⟨Nat.le_refl _,by simp[roomy];omega⟩]
        exact fin _ (by simpa using hins)
      ·have hlt:k<out.length:=by omega
       rw[if_neg (by simp;omega),if_pos (by omega),List.getElem?_eq_getElem hlt]
       simp only[Option.bind_some];by_cases hx:out[k]=x
       ·rw[if_neg (by simpa using hx)]
        exact fin _ (hnew _ hst fun y=>⟨.inr,fun h=>by rcases h with rfl |h;rw[← hx];exact List.getElem_mem hlt;exact h⟩)
       ·have hgt:x<out[k]:=by have:=hhi hlt;omega
        have hins:out.take k++x::out.drop k=uniq ((l.take (i+1)).filterMap gj):=hnew _ (G3 (fun a b:Int=>a<b) (fun a b c=>Int.lt_trans) (by omega) hst hlo (fun _=>hgt)) (fun y=>SI k)
        rw[if_pos (by simpa using hx),if_pos (by omega)]
        have hd:List.take (out.length - k) (List.drop k out)=List.drop k out:=List.take_of_length_le (by simp)
        by_cases h0:k=0
        ·subst h0;rw[if_pos (by omega),if_pos (by omega),if_pos ⟨⟨rfl,by omega⟩,by simp[roomy];omega⟩,if_pos ⟨⟨by omega,by omega⟩,by simp[roomy];omega⟩]
         exact fin _ (by simpa using hins)
        ·rw[if_neg (by omega),if_pos (by omega),if_pos (by omega),if_pos ⟨⟨rfl,by omega⟩,by simp[roomy];omega⟩,if_pos ⟨⟨by omega,by omega⟩,by simp[roomy];omega⟩]
         exact fin _ (by rw[Nat.zero_add,hd,List.drop_zero,List.take_length];exact hins)
    ·rw[if_pos (by simpa using hf)]
     rw[if_neg (fun q=>hf q.2)]at hts
     exact fin0 _ (by rw[hstep,hts];simp)
   ·rw[if_pos (by simpa using hk)]
    rw[if_neg (fun q=>hk q.1)]at hts
    exact fin0 _ (by rw[hstep,hts];simp)
 ·subst ht;exact if_pos (by simp[k6])
theorem PY(N:Nat)(l:List (V8 Int))(K:Int)(hl:l.length<100000)(hN:l.length<N)(hok:∀x∈l,E5 x):CZ.S N (l,K)=some (match lJ l K with |some c=>(tF c,true) |none=>((0:Int),false)):=by
 show(yB l K).run N=_;simp only[yB,G.run,aO,if_true,bY,cw,Mv];refine uW (I:=fun s=>∃i:Nat,s=(i:Int)∧i≤l.length∧lJ (l.take i) K=none) (m:=fun s=>l.length - s.toNat) (Q:=fun(t:Int⊕Unit)=>(∃c,lJ l K=some c∧t=.inl (tF c))∨(lJ l K=none∧t=.inr ())) ⟨0,rfl,Nat.zero_le _,rfl⟩ (by simp;omega) (fun s hs=>?_) (fun t ht=>?_)
 ·obtain⟨i,rfl,hi,hno⟩:=hs;by_cases he:i=l.length
  ·left;subst he;rw[if_neg (by simp)]
   exact⟨_,rfl,.inr ⟨by rwa[List.take_length]at hno,rfl⟩⟩
  ·have hil:i<l.length:=by omega
   have e1:gv l (i:Int)=some l[i]:=by rw[bN];exact List.getElem?_eq_getElem hil
   rw[if_pos (by simp;omega),e1]
   simp only[Option.bind_some,bJ (x:=(i:Int)+1) (n:=i+1) (by omega) (by omega)]
   by_cases hx:oG l[i]=K
   ·left;rw[if_pos (by simpa using hx)]
    refine SK (K8 _ (hok _ (List.getElem_mem hil)) _) ?_;exact⟨_,rfl,.inl ⟨l[i],LS hil hno hx,rfl⟩⟩
   ·right;rw[if_neg (by simpa using hx)]
    exact⟨_,rfl,⟨i+1,rfl,by omega,LR hil hno hx⟩,by simp only[Int.toNat_natCast];omega⟩
 ·rcases ht with⟨c,h,rfl⟩ |⟨h,rfl⟩
  ·rw[h];rfl
  ·rw[h];rfl
theorem Uk(n:Nat)(l:List (V8 Int))(hl:l.length<100000)(hn:l.length<n)(hok:∀x∈l,E5 x):At (uM.S n l) (fun(r:Int×Bool)=>r=CU l):=by
 refine(?_ :cF n (uL l) _);unfold uL;refine .skip (.call (fun(r:Int×Bool)=>r=CU l) ⟨_,PY n l 6 hl hn hok,?_⟩ fun(r:Int×Bool) hr=>.skip (.done rfl hr))
 unfold CU;cases h:lJ l 6 with
 |none=>rfl
 |some c=>simp only;rw[UY (hok c (NZ h))]
end Go.L
end
