/- Put together out of parts: What the imports of a route are, in the program and in the reference. No conditions. -/
import Derived.Test.YtpgpmlaafigpaaaGreatDoorPEw
import Derived.Test.YtpgpmlaafigpaaaGreatDoorWPx
import Derived.Test.YtpgpmlaafigpaaaGreatDoorPIm
section
namespace Go.L
open Go.AM Go.Sort
set_option maxRecDepth 100000
set_option linter.unusedVariables false
set_option linter.unusedSimpArgs false
theorem Og:∀{a b:List Int},qe a→qe b→(∀x,x∈a↔x∈b)→a=b
 | [],[],_,_,_=>rfl
 | [],y::b,_,_,h=>by have:=(h y).2 (by simp);cases this
 |x::a,[],_,_,h=>by have:=(h x).1 (by simp);cases this
 |x::a,y::b,ha,hb,h=>by
  have ha1:=(List.pairwise_cons.1 ha).1;have ha2:=(List.pairwise_cons.1 ha).2;have hb1:=(List.pairwise_cons.1 hb).1;have hb2:=(List.pairwise_cons.1 hb).2;have e:x=y:=by
   have h1:=(h x).1 (by simp)
   have h2:=(h y).2 (by simp)
   rcases List.mem_cons.1 h1 with h1 |h1
   ·exact h1
   ·rcases List.mem_cons.1 h2 with h2 |h2
    ·exact h2.symm
    ·have:=hb1 x h1;have:=ha1 y h2;omega
  subst e;rw[Og ha2 hb2 fun z=>?_]
  have:=h z;simp only[List.mem_cons]at this;constructor
  ·intro hz;rcases this.1 (.inr hz)with q |q
   ·have:=ha1 z hz;omega
   ·exact q
  ·intro hz;rcases this.2 (.inr hz)with q |q
   ·have:=hb1 z hz;omega
   ·exact q
noncomputable def tS(r:aq)(x:Import):Bool:=decide (x.Target∈nO r)&&(!x.dB||((fZ r).2&&om x.Prefix (fZ r).1))
def Ds(r:aq)(l:List Import)(out:List Int):Prop:=(qe out∧out.length≤l.length)∧∀k,k∈out↔∃x∈l,tS r x=true∧x.Place=k
theorem Oh{r:aq}{l:List Import}{a b:List Int}(ha:Ds r l a)(hb:Ds r l b):a=b:=
 Og ha.1.1 hb.1.1 fun x=>(ha.2 x).trans (hb.2 x).symm
theorem HX(n:Nat)(l:List Import)(r:aq)(hr:rL r)(hl:l.length≤100)(hn:1000≤n):At (qD.S n (l,r)) (Ds r l):=by
 have h1:=hr.2.2;have h2:=I9 r;have hp:jg.S n r=some (fZ r):=cr.get (N:=0) (cr.eq fun n k=>yF n r k) (Nat.zero_le _)
 refine(PS n r (nO r) (fZ r) (B4 n _ (by omega) (by omega)) hp (by omega) (by omega) l (by omega) (by omega)).mono fun out ho=>⟨ho.1,fun k=>?_⟩
 rw[ho.2 k];have e:∀x,yS n (nO r) (fZ r) x=tS r x:=fun x=>by
  unfold yS tS hasB Tu;rw[cr.get (Rp (n) (nO r) x.Target (Od r) (by omega) (by omega)) (Nat.le_refl _)]
  rw[cr.get (N:=0) (cr.eq fun n k=>F9 n x.Prefix (fZ r).1 k) (Nat.zero_le _)]
  rfl
 simp only[e]
theorem UL{out:List Int}{x:Int}{k:Nat}(hk:k≤out.length)(hp:qe out)(hlo:∀j y,j<k→out[j]? =some y→y<x)(hhi:∀y,out[k]? =some y→x<y):qe (out.take k++x::out.drop k):=by
 refine List.pairwise_append.2 ⟨hp.sublist (List.take_sublist _ _),List.pairwise_cons.2 ⟨fun y hy=>?_,hp.sublist (List.drop_sublist _ _)⟩,fun a ha b hb=>?_⟩
 ·obtain⟨j,hj⟩:=List.mem_iff_getElem?.1 hy;rw[List.getElem?_drop]at hj;rcases Nat.eq_zero_or_pos j with h0 |h0
  ·subst h0;exact hhi y (by simpa using hj)
  ·have hkl:k<out.length:=by have:=(List.getElem?_eq_some_iff.1 hj).1;omega
   have h1:=hhi _ (List.getElem?_eq_getElem hkl);have h2:=EL hp (List.getElem?_eq_getElem hkl) hj (by omega)
   omega
 ·obtain⟨j,hj⟩:=List.mem_iff_getElem?.1 ha;rw[List.getElem?_take]at hj;split at hj
  ·rename_i hjk;have h1:=hlo j a hjk hj;rcases List.mem_cons.1 hb with rfl |hb
   ·exact h1
   ·obtain⟨i,hi⟩:=List.mem_iff_getElem?.1 hb;rw[List.getElem?_drop]at hi;exact EL hp hj hi (by omega)
  ·cases hj
noncomputable def Oi(l:List Import)(r:aq)(pf:Prefix×Bool)(i:Int)(out:List Int)(w:Import):G prog ((Prod Int (List Int))⊕Sh.El (.one (List Int))):=
 .skip 2<|.loop (.one Int) [.keep [0,3,5,6,7,8,9]] (fun(a:Int)=>⟨(ap [(.aj (List.map Go.L.cB l)),.af,.af,(.ptr 0 0 0 0),.af,(.ptr 1 0 0 0),(.sc (.bool pf.2)),(.sl 2 0 1 0 (List.length out)),(.sc (.int .i64 i)),.sc (.int .i64 a)] (jl 84)),[(.row 0 38 [aG r]),.row 0 2 [dN pf.1],(.row 0 1 (List.map (Go.AM.eI .i64) out)),(.row 0 1 [[(.sc (.int .u32 w.Target))]])],[]⟩)
  (fun(t:Int)=>(.exit 2,⟨(ap [(.aj (List.map Go.L.cB l)),.af,.af,(.ptr 0 0 0 0),.af,(.ptr 1 0 0 0),(.sc (.bool pf.2)),(.sl 2 0 1 0 (List.length out)),(.sc (.int .i64 i)),.sc (.int .i64 t)] (jl 84)),[(.row 0 38 [aG r]),.row 0 2 [dN pf.1],(.row 0 1 (List.map (Go.AM.eI .i64) out)),(.row 0 1 [[(.sc (.int .u32 w.Target))]])],[]⟩)) (0:Int)
  (fun(a55:Int)=>.skip 5<|.br 63 (decide (a55<(((List.length out):Nat):Int))) (.skip 2<|.op (aN (List.length out) 1 2 0 a55) fun _=>.op (bX out (Go.AM.eI .i64) 1 2 0 (Int.toNat a55) 0 fun v=>.sc (.int .i64 v)) fun x56=>.skip 2<|.op (aV l Go.L.cB 5 i) fun x57=>.skip 4<|.br 74 (decide (x56<x57.Place)) (.skip 4<|.done [.keep [0,3,5,6,7,8,9]] (.inl (Go.IntKind.wrap .i64 (a55+(1:Int))))) (.skip 1<|.done [.keep [0,3,5,6,7,8,9]] (.inr a55))) (.skip 12<|.done [.keep [0,3,5,6,7,8,9]] (.inr a55)))
  (fun(t61:Int)=>.skip 3<|.op (yB ((List.length out)) 1 2 0 0 t61) fun h62=>.op (rC 0 [] out 2 0 0 h62 (eI .i64) 1 8 4 0 5) fun _=>.skip 2<|.op (aV l Go.L.cB 5 i) fun x63=>.skip 3<|.op (fu (List.length ([]++(List.take h62 (List.drop 0 out)))) ([]++(List.take h62 (List.drop 0 out))) [x63.Place] (eI .i64) 1 8 4 1 7 [6]) fun _=>.skip 2<|.sp (Bj t61) (.op (Dg ((List.length out)) 1 2 0 0 t61) fun _=>.op (rC ((List.length (([]++(List.take h62 (List.drop 0 out)))++[x63.Place]))) ((([]++(List.take h62 (List.drop 0 out)))++[x63.Place])) out 2 0 0 ((List.length out)) (eI .i64) 1 8 4 2 8) fun _=>.skip 4<|.done [.keep [0,3,5,6,7,8],.cut [0,1,4] [] [aR 4 3 1 ((([]++(List.take h62 (List.drop 0 out)))++[x63.Place])++(List.take (List.length out) (List.drop 0 out))) (Go.AM.eI .i64) fun _=>rfl]] (.inl ((Go.IntKind.wrap .i64 (i+(1:Int))),((([]++(List.take h62 (List.drop 0 out)))++[x63.Place])++(List.take (List.length out) (List.drop 0 out)))))) (.sp (Bk t61 ((List.length out))) (.op (Ae ((List.length out)) 1 2 0 0 t61) fun h65=>.op (rC ((List.length (([]++(List.take h62 (List.drop 0 out)))++[x63.Place]))) ((([]++(List.take h62 (List.drop 0 out)))++[x63.Place])) out 2 0 ((0+h65)) (((List.length out) - h65)) (eI .i64) 1 8 4 2 8) fun _=>.skip 4<|.done [.keep [0,3,5,6,7,8],.cut [0,1,4] [] [aR 4 3 1 ((([]++(List.take h62 (List.drop 0 out)))++[x63.Place])++(List.take ((List.length out) - h65) (List.drop (0+h65) out))) (Go.AM.eI .i64) fun _=>rfl]] (.inl ((Go.IntKind.wrap .i64 (i+(1:Int))),((([]++(List.take h62 (List.drop 0 out)))++[x63.Place])++(List.take ((List.length out) - h65) (List.drop (0+h65) out)))))) (.op (Dh ((List.length out)) 1 2 0 0 t61) fun _=>.op (fu (List.length (([]++(List.take h62 (List.drop 0 out)))++[x63.Place])) (([]++(List.take h62 (List.drop 0 out)))++[x63.Place]) [] (eI .i64) 1 8 4 2 8 []) fun _=>.skip 4<|.done [.keep [0,3,5,6,7,8],.cut [0,1,4] [] [aR 4 3 1 ((([]++(List.take h62 (List.drop 0 out)))++[x63.Place])++[]) (Go.AM.eI .i64) fun _=>rfl]] (.inl ((Go.IntKind.wrap .i64 (i+(1:Int))),((([]++(List.take h62 (List.drop 0 out)))++[x63.Place])++[]))))))
def PT(i:Int)(out:List Int)(x:Int):(Prod Int (List Int))⊕Sh.El (.one (List Int))→Prop
 | .inl b=>b.1=i+1∧∃k,k≤out.length∧b.2=out.take k++x::out.drop k∧(∀j y,j<k→out[j]? =some y→y<x)∧∀y,out[k]? =some y→¬y<x
 | .inr _=>False
theorem JZ(N:Nat)(l:List Import)(r:aq)(pf:Prefix×Bool)(i:Int)(out:List Int)(w y:Import)(hy:(aV l cB 5 i).run=some y)(h0:0≤i)(hi:i<1000)(ho:out.length≤100)(hN:1000≤N):bk N (Oi l r pf i out w) (PT i out y.Place):=by
 unfold Oi;refine .loop (fun(k:Int)=>(0≤k∧k≤(out.length:Int))∧∀(j:Nat) z,(j:Int)<k→out[j]? =some z→z<y.Place) (fun k=>((out.length:Int) - k).toNat)
  (fun(t:Int)=>(0≤t∧t≤(out.length:Int))∧(∀(j:Nat) z,(j:Int)<t→out[j]? =some z→z<y.Place)∧∀z,out[t.toNat]? =some z→¬z<y.Place) rfl ⟨⟨by simp,by simp⟩,fun j z hj=>by omega⟩ (by simp;omega) ?_ ?_
 ·rintro k ⟨⟨g0,g1⟩,g2⟩;refine .skip (.br (fun h=>.skip ?_) fun h=>.skip (.done rfl ?_))
  ·simp only[decide_eq_true_eq]at h;have hkl:k.toNat<out.length:=by omega
   have hg:out[k.toNat]? =some out[k.toNat]:=List.getElem?_eq_getElem hkl;refine .op () (nj ⟨g0,h⟩) (.op out[k.toNat] hg (.skip (.op y hy (.skip (.br (fun hb=>.skip (.done rfl ?_)) fun hb=>.skip (.done rfl ?_))))))
   ·simp only[decide_eq_true_eq]at hb;rw[wrap_i64 (by omega) (by omega)]
    refine⟨⟨⟨by omega,by omega⟩,fun j z hj hz=>?_⟩,by(try simp only);omega⟩
    by_cases he:j=k.toNat
    ·subst he;rw[hg]at hz;cases hz;exact hb
    ·exact g2 j z (by omega) hz
   ·simp only[decide_eq_false_iff_not]at hb;exact⟨⟨g0,g1⟩,g2,fun z hz=>by rw[hg]at hz;cases hz;exact hb⟩
  ·simp only[decide_eq_false_iff_not]at h;exact⟨⟨g0,g1⟩,g2,fun z hz=>by have:=(List.getElem?_eq_some_iff.1 hz).1;omega⟩
 ·intro(t:Int) ht;obtain⟨⟨g0,g1⟩,g2,g3⟩:=ht;have hw:Go.IntKind.wrap .i64 (i+1)=i+1:=wrap_i64 (by omega) (by omega)
  have hk:t.toNat≤out.length:=by omega
  have hlt:(out.take t.toNat).length=t.toNat:=by rw[List.length_take];omega
  have fin:∀v:List Int,v=out.take t.toNat++y.Place::out.drop t.toNat→PT i out y.Place (.inl (Go.IntKind.wrap .i64 (i+1),v)):=fun v hv=>
   ⟨hw,t.toNat,hk,hv,fun j z hj hz=>g2 j z (by omega) hz,g3⟩
  refine .skip (.op t.toNat (nj ⟨g0,g1⟩) (.op () (nj ⟨⟨rfl,by omega⟩,by simp[roomy];omega⟩) (.skip (.op y hy (.skip (.op () (nj ⟨rfl,by simp[roomy];omega⟩) (.skip (.sp (fun hz=>?_) fun hz=>?_))))))))
  ·have hz:t=0:=by simpa[Bj]using hz
   refine .op () (nj hz) (.op () (nj ⟨⟨rfl,by omega⟩,by simp[roomy];omega⟩) (.skip (.done rfl (fin _ ?_))))
   subst hz;simp
  ·have hz:t≠0:=by simpa[Bj]using hz
   refine .sp (fun hl=>?_) fun hl=>?_
   ·have hl:t<(out.length:Int):=by simpa[Bk]using hl
    refine .op t.toNat (nj ⟨by omega,hl⟩) (.op () (nj ⟨⟨rfl,by omega⟩,by simp[roomy];omega⟩) (.skip (.done rfl (fin _ ?_))))
    simp only[List.drop_zero,List.nil_append,Nat.zero_add,List.append_assoc,List.singleton_append];rw[List.take_of_length_le (i:=out.length - t.toNat) (by rw[List.length_drop];omega)]
   ·have hl:¬t<(out.length:Int):=by simpa[Bk]using hl
    refine .op () (nj ⟨by omega,by omega⟩) (.op () (nj ⟨rfl,by simp[roomy];omega⟩) (.skip (.done rfl (fin _ ?_))))
    have:t.toNat=out.length:=by omega
    simp[this]
end Go.L
end
section
namespace Go.L
open Go.AM Go.Sort
set_option maxRecDepth 100000
set_option linter.unusedVariables false
set_option linter.unusedSimpArgs false
def RI(r:aq)(l:List Import)(a:Int×List Int):Prop:=
 ∃k:Nat,a.1=(k:Int)∧k≤l.length∧qe a.2∧a.2.length≤k∧∀p,p∈a.2↔∃x∈l.take k,tS r x=true∧x.Place=p
theorem RI.L7{r:aq}{l:List Import}{k:Nat}{x:Import}{p:Int}(hx:l[k]? =some x):(∃z∈l.take (k+1),tS r z=true∧z.Place=p)↔(∃z∈l.take k,tS r z=true∧z.Place=p)∨(tS r x=true∧x.Place=p):=by
 rw[eW hx];constructor
 ·rintro⟨z,hz,h1,h2⟩;rcases List.mem_append.1 hz with hz |hz
  ·exact .inl ⟨z,hz,h1,h2⟩
  ·simp only[List.mem_singleton]at hz;subst hz;exact .inr ⟨h1,h2⟩
 ·rintro(⟨z,hz,h1,h2⟩ |⟨h1,h2⟩)
  ·exact⟨z,List.mem_append_left _ hz,h1,h2⟩
  ·exact⟨x,by simp,h1,h2⟩
theorem RI.same{r:aq}{l:List Import}{i:Int}{out:List Int}(h:RI r l (i,out))(hl:l.length≤100){x:Import}(h0:0≤i)(hlt:i<(l.length:Int))(hx:l[i.toNat]? =some x)(hs:tS r x=true→x.Place∈out):
 RI r l (Go.IntKind.wrap .i64 (i+1),out)∧l.length - (Go.IntKind.wrap .i64 (i+1)).toNat<l.length - i.toNat:=by
 obtain⟨k,hk,hkl,ha,hlen,hm⟩:=h;simp only at hk ha hlen hm;subst hk;simp only[Int.toNat_natCast]at hx;rw[wrap_i64 (by omega) (by omega)]
 refine⟨⟨k+1,by simp,by omega,ha,Nat.le_succ_of_le hlen,fun p=>?_⟩,by omega⟩
 rw[RI.L7 hx];simp only
 constructor
 ·intro hp;exact .inl ((hm p).1 hp)
 ·rintro(hp |⟨h1,rfl⟩)
  ·exact(hm p).2 hp
  ·exact hs h1
theorem RI.ins{r:aq}{l:List Import}{i:Int}{out:List Int}(h:RI r l (i,out))(hl:l.length≤100){x:Import}(h0:0≤i)(hlt:i<(l.length:Int))(hx:l[i.toNat]? =some x)(hs:tS r x=true)(hn:x.Place∉out)
 {v:(Prod Int (List Int))⊕Sh.El (.one (List Int))} (hv:PT i out x.Place v):FA (RI r l) (fun a=>l.length - a.1.toNat) (fun(t:List Int)=>Ds r l t) (i,out) v:=by
 cases v with
 |inr _=>cases hv
 |inl b=>
  obtain⟨hb,k0,hk0,he,hlo,hhi⟩:=hv;obtain⟨k,hk,hkl,ha,hlen,hm⟩:=h;simp only at hk ha hlen hm;subst hk;simp only[Int.toNat_natCast]at hx;refine⟨⟨k+1,by rw[hb];simp,by omega,?_,?_,fun p=>?_⟩,by show l.length - b.1.toNat<l.length - ((k:Nat):Int).toNat;rw[hb];omega⟩
  ·rw[he];refine UL hk0 ha hlo fun y hy=>?_
   have h1:=hhi y hy;have h2:x.Place≠y:=fun q=>hn (by rw[q];exact List.mem_of_getElem? hy)
   omega
  ·rw[he,List.length_append,List.length_cons,List.length_take,List.length_drop];omega
  ·rw[he,I7,RI.L7 hx,hm p];constructor
   ·rintro(rfl |h)
    ·exact .inr ⟨hs,rfl⟩
    ·exact .inl h
   ·rintro(h |⟨_,rfl⟩)
    ·exact .inr h
    ·exact .inl rfl
theorem L8(N:Nat)(out:List Int)(x:Int)(ho:out.length≤100)(hN:1000≤N):cr N (fun n=>wz.S n (out,out.length,x)) fun(b:Bool)=>b=decide (x∈out):=
 ⟨_,rfl,fun n hn=>by
  show(if out.length=out.length then oh.S n (out,x)else none)=_
  rw[if_pos rfl];exact N5 n out x (by omega) (by omega)⟩
theorem Ja(N:Nat)(l:List Import)(r:aq)(hr:rL r)(ho:sN r.A.aY)(hl:l.length≤100)(hN:1000≤N):cr N (fun n=>Bx.S n (l,r)) fun(out:List Int)=>Ds r l out:=by
 refine(?_ :bk N (wA l r) _);unfold wA;refine .skip (.call (fun(p:Prefix×Bool)=>p=fZ r) (cr.eq fun n k=>AA n r k) fun pf hpf=>?_)
 rw[show pf=fZ r from hpf];refine .skip (.loop (RI r l) (fun a=>l.length - a.1.toNat) (fun(t:List Int)=>Ds r l t) rfl ⟨0,rfl,Nat.zero_le _,List.Pairwise.nil,Nat.le_refl _,by simp⟩ (by show l.length - 0<N;omega) ?_ ?_)
 ·rintro⟨i,out⟩ hI;have hI2:=hI;obtain⟨k,hk,hkl,ha,hlen,hm⟩:=hI2;simp only at hk ha hlen hm ⊢;have h0:0≤i:=by omega
  have hol:out.length≤100:=by omega
  refine .skip (.op () rfl (.skip (.br (fun h=>.skip ?_) fun h=>.skip (.done rfl ?_))))
  ·simp only[decide_eq_true_eq]at h;obtain⟨x,hx,hg⟩:=fq l cB 5 i h0 h;refine .op x hx (.skip (.call (fun(b:Bool)=>b=decide (x.Target∈nO r)) ((HQ N [x.Target] r hr ho (by simp) hN).mono fun b hb=>by rw[hb];simp[meets]) fun b46 hb46=>.skip (.br (fun h1=>.skip (.done rfl ?_)) fun h1=>.skip ?_)))
   ·have:b46=false:=LV h1;rw[hb46]at this;exact hI.same hl h0 h hg fun hs=>by unfold tS at hs;rw[this]at hs;cases hs
   have ht:decide (x.Target∈nO r)=true:=by rw[← hb46];exact Cy h1
   refine .op x hx (.skip (.br (fun hp=>.skip ?_) fun hp=>.skip ?_))
   ·refine .br (fun h2=>.skip ?_) fun h2=>.skip (.done rfl ?_)
    ·refine .op x hx (.skip (.call (fun(b:Bool)=>b=om x.Prefix (fZ r).1) (cr.eq fun n k=>HM n _ _ k) fun b50 hb50=>.skip (.br (fun h3=>.skip (.done rfl ?_)) fun h3=>.skip ?_)))
     ·have:b50=false:=LV h3;rw[hb50]at this;exact hI.same hl h0 h hg fun hs=>by unfold tS at hs;rw[this,hp]at hs;simp at hs
     have hc:om x.Prefix (fZ r).1=true:=by rw[← hb50];exact Cy h3
     have hs:tS r x=true:=by unfold tS;rw[ht,hp,h2,hc];rfl
     refine .op x hx (.skip (.ax _ (L8 N out x.Place hol hN) fun b53 hb53=>.skip (.br (fun h4=>.skip (.done rfl ?_)) fun h4=>.skip ?_)))
     ·exact hI.same hl h0 h hg fun _=>by rw[hb53]at h4;simpa using h4
     ·have hnot:x.Place∉out:=by rw[hb53]at h4;simpa using h4
      exact(JZ N l r (fZ r) i out x x hx h0 (by omega) hol hN).mono fun v hv=>hI.ins hl h0 h hg hs hnot hv
    ·exact hI.same hl h0 h hg fun hs=>by unfold tS at hs;rw[hp,h2]at hs;simp at hs
   ·have hs:tS r x=true:=by unfold tS;rw[ht,hp];rfl
    refine .op x hx (.skip (.ax _ (L8 N out x.Place hol hN) fun b53 hb53=>.skip (.br (fun h4=>.skip (.done rfl ?_)) fun h4=>.skip ?_)))
    ·exact hI.same hl h0 h hg fun _=>by rw[hb53]at h4;simpa using h4
    ·have hnot:x.Place∉out:=by rw[hb53]at h4;simpa using h4
     exact(JZ N l r (fZ r) i out x x hx h0 (by omega) hol hN).mono fun v hv=>hI.ins hl h0 h hg hs hnot hv
  ·simp only[decide_eq_false_iff_not]at h;have hke:k=l.length:=by omega
   subst hke;rw[List.take_length]at hm;exact⟨⟨ha,hlen⟩,hm⟩
 ·intro(t:List Int) ht;exact .skip (.done (by simp[aI,bh]) ht)
end Go.L
end
section
namespace Go.L
open Go.AM Go.Sort
set_option maxRecDepth 100000
set_option linter.unusedVariables false
set_option linter.unusedSimpArgs false
theorem Vx(N:Nat)(l:List Int)(hl:l.length<1000000)(hN:l.length<N):cr N (fun n=>zg.S n (l,l)) fun(b:Bool)=>b=true:=by
 refine(?_ :bk N (tR l l) _);unfold tR;refine .skip (.op () rfl (.skip (.op () rfl (.skip (.br (fun h=>by simp at h) fun h=>.skip ?_)))))
 refine .loop (fun(a:Int)=>0≤a∧a≤(l.length:Int)) (fun a=>((l.length:Int) - a).toNat) (fun(s:Unit⊕Unit)=>s=.inr ()) rfl ⟨by simp,by simp⟩ ?_ ?_ ?_
 ·simp;omega
 ·rintro a ⟨g0,g1⟩;refine .skip (.op () rfl (.skip (.br (fun h=>.skip ?_) fun h=>.skip (.done rfl rfl))))
  simp only[decide_eq_true_eq]at h;obtain⟨y,hy,hg⟩:=fq l (eI .u32) 1 a g0 h;refine .op y hy (.skip (.op y hy (.skip (.br (fun h=>by simp at h) fun h=>.skip (.done rfl ?_)))))
  rw[wrap_i64 (by omega) (by omega)]
  exact⟨⟨by omega,by omega⟩,by(try simp only);omega⟩
 ·rintro s rfl;exact .skip (.done rfl rfl)
theorem UM(N:Nat)(l:List Int)(hl:l.length<1000000)(hN:l.length<N):cr N (fun n=>DQ.S n (l,l)) fun(b:Bool)=>b=true:=by
 refine(?_ :bk N (yJ l l) _);unfold yJ;refine .skip (.op () rfl (.skip (.op () rfl (.skip (.br (fun h=>by simp at h) fun h=>.skip ?_)))))
 refine .loop (fun(a:Int)=>0≤a∧a≤(l.length:Int)) (fun a=>((l.length:Int) - a).toNat) (fun(s:Unit⊕Unit)=>s=.inr ()) rfl ⟨by simp,by simp⟩ ?_ ?_ ?_
 ·simp;omega
 ·rintro a ⟨g0,g1⟩;refine .skip (.op () rfl (.skip (.br (fun h=>.skip ?_) fun h=>.skip (.done rfl rfl))))
  simp only[decide_eq_true_eq]at h;obtain⟨y,hy,hg⟩:=fq l (eI .u32) 1 a g0 h;refine .op y hy (.skip (.op y hy (.skip (.br (fun h=>by simp at h) fun h=>.skip (.done rfl ?_)))))
  rw[wrap_i64 (by omega) (by omega)]
  exact⟨⟨by omega,by omega⟩,by(try simp only);omega⟩
 ·rintro s rfl;exact .skip (.done rfl rfl)
theorem Vy(N:Nat)(l:List (V8 Int))(hl:l.length<1000000)(hN:l.length<N):cr N (fun n=>Bu.S n (l,l)) fun(b:Bool)=>b=true:=by
 refine(?_ :bk N (wm l l) _);unfold wm;refine .skip (.op () rfl (.skip (.op () rfl (.skip (.br (fun h=>by simp at h) fun h=>.skip ?_)))))
 refine .loop (fun(a:Int)=>0≤a∧a≤(l.length:Int)) (fun a=>((l.length:Int) - a).toNat) (fun(s:Unit⊕Unit)=>s=.inr ()) rfl ⟨by simp,by simp⟩ ?_ ?_ ?_
 ·simp;omega
 ·rintro a ⟨g0,g1⟩;refine .skip (.op () rfl (.skip (.br (fun h=>.skip ?_) fun h=>.skip (.done rfl rfl))))
  simp only[decide_eq_true_eq]at h;obtain⟨y,hy,hg⟩:=fq l (ay (cI .u8)) 8 a g0 h;refine .op y hy (.skip (.op y hy (.skip (.br (fun h=>by simp at h) fun h=>.skip (.done rfl ?_)))))
  rw[wrap_i64 (by omega) (by omega)]
  exact⟨⟨by omega,by omega⟩,by(try simp only);omega⟩
 ·rintro s rfl;exact .skip (.done rfl rfl)
def RO(r:aq):Prop:=r.A.Path.length≤900∧r.A.cg.length≤900∧r.A.aY.length≤900
theorem RP(N:Nat)(x:bE)(h1:x.Path.length≤900)(h2:x.cg.length≤900)(h3:x.aY.length≤900)(hN:1000≤N):cr N (fun n=>Bv.S n (x,x)) fun(b:Bool)=>b=true:=by
 refine(?_ :bk N (wo x x) _);unfold wo;refine .skip (.br (fun _=>.skip ?_) fun h=>by simp at h)
 refine .call _ (Vx N _ (by omega) (by omega)) fun b hb=>.skip (.br (fun _=>.skip ?_) fun h=>by rw[hb]at h;cases h)
 refine .br (fun _=>.skip ?_) fun h=>by simp at h
 refine .br (fun _=>.skip ?_) fun h=>by simp at h
 refine .br (fun _=>.skip ?_) fun h=>by simp at h
 refine .br (fun _=>.skip ?_) fun h=>by simp at h
 refine .br (fun _=>.skip ?_) fun h=>by simp at h
 refine .br (fun _=>.skip ?_) fun h=>by simp at h
 refine .br (fun _=>.skip ?_) fun h=>by simp at h
 refine .call _ (UM N _ (by omega) (by omega)) fun b hb=>.skip (.br (fun _=>.skip ?_) fun h=>by rw[hb]at h;cases h)
 refine .call _ (Vy N _ (by omega) (by omega)) fun b hb=>.skip (.br (fun _=>.skip ?_) fun h=>by rw[hb]at h;cases h)
 exact .done rfl (by simp)
theorem GG(N:Nat)(x:aq)(h:RO x)(hN:1000≤N):cr N (fun n=>rK.S n (x,x)) fun(b:Bool)=>b=true:=by
 refine(?_ :bk N (wq x x) _);unfold wq;refine .skip (.br (fun _=>.skip ?_) fun h=>by simp at h)
 refine .call _ (RP N x.A h.1 h.2.1 h.2.2 hN) fun b hb=>.skip (.br (fun _=>.skip ?_) fun h=>by rw[hb]at h;cases h)
 refine .br (fun _=>.skip ?_) fun h=>by simp at h
 exact .done rfl (by simp)
theorem UN(x:cu)(r:aq)(hr:rL r)(hx:zh x):RO (Dr x r).1:=by
 obtain⟨r1,r2,r3⟩:=hr;unfold Dr;split
 ·exact⟨by simp only[yO];omega,by simp only[yO];omega,by simp only[yO];omega⟩
 ·split
  ·exact⟨by simp[tD],by simp[tD],by simp[tD]⟩
  ·exact⟨by simp only[yO];omega,by simp only[yO];omega,by simp only[yO];omega⟩
theorem J1(mt:cu→Bool)(l:List cu)(r:aq)(hr:rL r)(hl:∀x∈l,zh x):RO (jR mt l r).1:=by
 unfold jR;split
 ·exact⟨by simp[tD],by simp[tD],by simp[tD]⟩
 ·rename_i x hx;split
  ·exact UN x r hr (hl x (List.mem_of_find?_eq_some hx))
  ·exact⟨by simp[tD],by simp[tD],by simp[tD]⟩
theorem nf{b:Bool}(h:(!b)=false):b=true:=by simpa using h
theorem nt{b:Bool}(h:(!b)=true):b=false:=by simpa using h
theorem RQ(N:Nat):cr N (fun n=>DL.S n ()) fun(b:Bool)=>b=true:=⟨true,rfl,fun _ _=>rfl⟩
theorem PV(N:Nat)(r:aq):cr N (fun n=>Am.S n r) fun(b:Bool)=>b=true→rL r:=by
 refine(?_ :bk N (uK r) _);unfold uK;refine .skip (.op () rfl (.skip (.br (fun h1=>.skip (.op () rfl (.skip (.br (fun h2=>.skip (.op () rfl (.skip (.done rfl fun h3=>?_)))) fun _=>.skip (.done rfl fun h=>by cases h))))) fun _=>.skip (.done rfl fun h=>by cases h))))
 simp only[decide_eq_true_eq]at h1 h2 h3;exact⟨by omega,by omega,by omega⟩
theorem Nj(N:Nat)(l:List aq)(k:Int)(hl:(l.length:Int)≤9223372036854775807)(hN:l.length<N):cr N (fun n=>ze.S n (l,k)) fun(b:Bool)=>b=true→(∀r∈l,rL r)∧(l.length:Int)≤k:=by
 refine(?_ :bk N (tP l k) _);unfold tP;refine .skip (.loop (fun(a:Int)=>0≤a∧a≤(l.length:Int)∧∀(j:Nat) z,j<a.toNat→l[j]? =some z→rL z) (fun a=>((l.length:Int) - a).toNat) (fun(s:Unit⊕Unit)=>s=.inr ()→∀r∈l,rL r) rfl ⟨by simp,by simp,fun j z hj=>by simp at hj⟩ ?_ ?_ ?_)
 ·simp;omega
 ·rintro a ⟨g0,g1,g2⟩;refine .skip (.op () rfl (.skip (.br (fun h=>.skip ?_) fun h=>.skip (.done rfl ?_))))
  ·simp only[decide_eq_true_eq]at h;obtain⟨y,hy,hg⟩:=fq l aG 38 a g0 h;refine .op y hy (.skip (.call _ (PV N y) fun b hb=>.skip (.br (fun h=>.skip (.done rfl fun e=>by cases e)) fun hm=>.skip (.done rfl ?_))))
   rw[wrap_i64 (by omega) (by omega)]
   refine⟨⟨by omega,by omega,fun j z hj hz=>?_⟩,by(try simp only);omega⟩
   by_cases he:j=a.toNat
   ·subst he;rw[hg]at hz;cases hz;exact hb (nf hm)
   ·exact g2 j z (by omega) hz
  ·simp only[decide_eq_false_iff_not]at h;intro _ r hr;obtain⟨j,hj,he⟩:=List.getElem_of_mem hr;exact g2 j r (by omega) (by rw[List.getElem?_eq_getElem hj,he])
 ·rintro(s |s) hs
  ·exact .done rfl fun h=>by cases h
  ·exact .skip (.op () rfl (.skip (.done rfl fun h=>⟨hs rfl,by simpa using h⟩)))
theorem RS(N:Nat)(l:List cu)(i:List Import)(rs:List aq)(hl:(l.length:Int)≤9223372036854775807)(hN:l.length<N)(hl2:(rs.length:Int)≤9223372036854775807)(hN2:rs.length<N):
 cr N (fun n=>DM.S n (l,i,rs)) fun(b:Bool)=>b=true→(∀x∈l,zh x)∧(∀r∈rs,rL r)∧l.length≤20∧i.length≤30∧rs.length≤20:=by
 refine(?_ :bk N (yD l i rs) _);unfold yD;refine .skip (.loop (fun(a:Int)=>0≤a∧a≤(l.length:Int)∧∀(j:Nat) z,j<a.toNat→l[j]? =some z→zh z) (fun a=>((l.length:Int) - a).toNat) (fun(s:Unit⊕Unit)=>s=.inr ()→∀r∈l,zh r) rfl ⟨by simp,by simp,fun j z hj=>by simp at hj⟩ ?_ ?_ ?_)
 ·simp;omega
 ·rintro a ⟨g0,g1,g2⟩;refine .skip (.op () rfl (.skip (.br (fun h=>.skip ?_) fun h=>.skip (.done rfl ?_))))
  ·simp only[decide_eq_true_eq]at h;obtain⟨y,hy,hg⟩:=fq l bI 15 a g0 h;refine .op y hy (.skip (.op () rfl (.skip (.br (fun h=>.skip (.done rfl fun e=>by cases e)) fun k1=>.skip ?_))))
   refine .op y hy (.skip (.op () rfl (.skip (.br (fun h=>.skip (.done rfl fun e=>by cases e)) fun k2=>.skip ?_))))
   refine .op y hy (.skip (.op () rfl (.skip (.br (fun h=>.skip (.done rfl fun e=>by cases e)) fun k3=>.skip ?_))))
   refine .op y hy (.skip (.op () rfl (.skip (.br (fun h=>.skip (.done rfl fun e=>by cases e)) fun k4=>.skip (.done rfl ?_)))))
   simp only[decide_eq_false_iff_not]at k1 k2 k3 k4;rw[wrap_i64 (by omega) (by omega)]
   refine⟨⟨by omega,by omega,fun j z hj hz=>?_⟩,by(try simp only);omega⟩
   by_cases he:j=a.toNat
   ·subst he;rw[hg]at hz;cases hz;exact⟨by omega,by omega,by omega,by omega⟩
   ·exact g2 j z (by omega) hz
  ·simp only[decide_eq_false_iff_not]at h;intro _ r hr;obtain⟨j,hj,he⟩:=List.getElem_of_mem hr;exact g2 j r (by omega) (by rw[List.getElem?_eq_getElem hj,he])
 ·rintro(s |s) hs
  ·exact .done rfl fun h=>by cases h
  ·refine .skip (.op () rfl (.skip (.br (fun hk=>.skip (.op () rfl (.skip (.br (fun hk2=>.skip ?_) fun _=>.skip (.done rfl fun h=>by cases h))))) fun _=>.skip (.done rfl fun h=>by cases h))))
   exact .call _ (Nj N rs _ hl2 hN2) fun b hb=>.skip (.done rfl fun h=>⟨hs rfl,(hb h).1,by simp only[decide_eq_true_eq]at hk;omega,by simp only[decide_eq_true_eq]at hk2;omega,by have:=(hb h).2;omega⟩)
theorem Nk(N:Nat)(r:aq)(x:cu)(hr:rL r)(hx:zh x)(hN:1000≤N):cr N (fun n=>Av.S n (x,r)) fun(b:Bool)=>b=oa r x:=by
 refine(?_ :bk N (uN x r) _);unfold uN;refine .skip (.call _ (Oe N r hr hN) fun t ht=>?_)
 subst ht;exact .call _ (RK N r x hr hx hN) fun b hb=>.skip (.done rfl hb)
theorem Vz(N:Nat)(l:List Import)(h:l.length<1000000):cr N (fun n=>yq.S n l) fun(r:List Import)=>r=l:=by
 refine(?_ :bk N (sO l) _);unfold sO;exact .skip (.op () (nj ⟨rfl,by simp[roomy];omega⟩) (.skip (.done (by simp[aI,bh]) rfl)))
theorem VA(N:Nat)(l:List Int)(hl:l.length<1000000)(hN:l.length<N):cr N (fun n=>CE.S n (l,l)) fun(b:Bool)=>b=true:=by
 refine(?_ :bk N (xC l l) _);unfold xC;refine .skip (.op () rfl (.skip (.op () rfl (.skip (.br (fun h=>by simp at h) fun h=>.skip ?_)))))
 refine .loop (fun(a:Int)=>0≤a∧a≤(l.length:Int)) (fun a=>((l.length:Int) - a).toNat) (fun(s:Unit⊕Unit)=>s=.inr ()) rfl ⟨by simp,by simp⟩ ?_ ?_ ?_
 ·simp;omega
 ·rintro a ⟨g0,g1⟩;refine .skip (.op () rfl (.skip (.br (fun h=>.skip ?_) fun h=>.skip (.done rfl rfl))))
  simp only[decide_eq_true_eq]at h;obtain⟨y,hy,hg⟩:=fq l (eI .i64) 1 a g0 h;refine .op y hy (.skip (.op y hy (.skip (.br (fun h=>by simp at h) fun h=>.skip (.done rfl ?_)))))
  rw[wrap_i64 (by omega) (by omega)]
  exact⟨⟨by omega,by omega⟩,by(try simp only);omega⟩
 ·rintro s rfl;exact .skip (.done rfl rfl)
theorem RT(N:Nat)(l:List aq)(hl:l.length<1000000)(hm:∀r∈l,RO r)(hN:l.length+1000≤N):cr N (fun n=>AB.S n (l,l)) fun(b:Bool)=>b=true:=by
 refine(?_ :bk N (uS l l) _);unfold uS;refine .skip (.op () rfl (.skip (.op () rfl (.skip (.br (fun h=>by simp at h) fun h=>.skip ?_)))))
 refine .loop (fun(a:Int)=>0≤a∧a≤(l.length:Int)) (fun a=>((l.length:Int) - a).toNat) (fun(s:Unit⊕Unit)=>s=.inr ()) rfl ⟨by simp,by simp⟩ ?_ ?_ ?_
 ·simp;omega
 ·rintro a ⟨g0,g1⟩;refine .skip (.op () rfl (.skip (.br (fun h=>.skip ?_) fun h=>.skip (.done rfl rfl))))
  simp only[decide_eq_true_eq]at h;obtain⟨y,hy,hg⟩:=fq l aG 38 a g0 h;refine .op y hy (.skip (.op y hy (.skip (.call _ (GG N y (hm y (List.mem_of_getElem? hg)) (by omega)) fun b hb=>.skip (.br (fun h=>by rw[hb]at h;cases h) fun h=>.skip (.done rfl ?_))))))
  rw[wrap_i64 (by omega) (by omega)]
  exact⟨⟨by omega,by omega⟩,by(try simp only);omega⟩
 ·rintro s rfl;exact .skip (.done rfl rfl)
theorem J2(N:Nat)(l:List cu)(hl:l.length≤20)(hx:∀x∈l,zh x)(hN:1000≤N):cr N (fun n=>yR.S n l) fun(r:List cu)=>r=l:=by
 refine(?_ :bk N (yQ l) _);unfold yQ;refine .skip (.loop (fun(a:Int×List cu)=>(0≤a.1∧a.1≤(l.length:Int))∧a.2=l.take a.1.toNat) (fun a=>((l.length:Int) - a.1).toNat) (fun(s:List cu)=>s=l) rfl ⟨⟨by simp,by simp⟩,by simp⟩ ?_ ?_ ?_)
 ·simp;omega
 ·rintro⟨i,acc⟩ ⟨⟨g0,g1⟩,ha⟩;simp only at g0 g1 ha ⊢;subst ha;have hlen:(l.take i.toNat).length≤20:=by rw[List.length_take];omega
  refine .skip (.op () rfl (.skip (.br (fun h=>.skip ?_) fun h=>.skip (.done rfl ?_))))
  ·simp only[decide_eq_true_eq]at h;obtain⟨y,hy,hg⟩:=fq l bI 15 i g0 h;obtain⟨h1,h2,h3,h4⟩:=hx y (List.mem_of_getElem? hg);refine .op y hy (.skip (.call _ (Ts N y.iw (by omega)) fun a1 e1=>.skip (.call _ (L5 N y.Targets (by omega)) fun a2 e2=>.skip (.call _ (GD N y.aW (by omega)) fun a3 e3=>.skip (.call _ (GD N y.Add (by omega)) fun a4 e4=>.skip ?_)))))
   rw[show a1=y.iw from e1,show a2=y.Targets from e2,show a3=y.aW from e3,show a4=y.Add from e4];refine .op () (nj ⟨rfl,by simp[roomy];omega⟩) (.skip (.done rfl ?_))
   rw[wrap_i64 (by omega) (by omega)]
   refine⟨⟨⟨by simp only;omega,by simp only;omega⟩,?_⟩,by simp only;omega⟩
   simp only
   rw[show(i+1).toNat=i.toNat+1 by omega,eW hg]
  ·simp only[decide_eq_false_iff_not]at h;show l.take i.toNat=l;exact List.take_of_length_le (by omega)
 ·rintro s hs;rw[show s=l from hs];exact .skip (.done (by simp[aI,bh]) rfl)
theorem RU(N:Nat)(l:List aq)(hl:l.length≤20)(hx:∀x∈l,rL x)(hN:1000≤N):cr N (fun n=>Bz.S n l) fun(r:List aq)=>r=l:=by
 refine(?_ :bk N (wB l) _);unfold wB;refine .skip (.loop (fun(a:Int×List aq)=>(0≤a.1∧a.1≤(l.length:Int))∧a.2=l.take a.1.toNat) (fun a=>((l.length:Int) - a.1).toNat) (fun(s:List aq)=>s=l) rfl ⟨⟨by simp,by simp⟩,by simp⟩ ?_ ?_ ?_)
 ·simp;omega
 ·rintro⟨i,acc⟩ ⟨⟨g0,g1⟩,ha⟩;simp only at g0 g1 ha ⊢;subst ha;have hlen:(l.take i.toNat).length≤20:=by rw[List.length_take];omega
  refine .skip (.op () rfl (.skip (.br (fun h=>.skip ?_) fun h=>.skip (.done rfl ?_))))
  ·simp only[decide_eq_true_eq]at h;obtain⟨y,hy,hg⟩:=fq l aG 38 i g0 h;refine .op y hy (.skip (.call _ (GF N y (hx y (List.mem_of_getElem? hg))) fun a1 e1=>.skip ?_))
   rw[show a1=y from e1];refine .op () (nj ⟨rfl,by simp[roomy];omega⟩) (.skip (.done rfl ?_))
   rw[wrap_i64 (by omega) (by omega)]
   refine⟨⟨⟨by simp only;omega,by simp only;omega⟩,?_⟩,by simp only;omega⟩
   simp only
   rw[show(i+1).toNat=i.toNat+1 by omega,eW hg]
  ·simp only[decide_eq_false_iff_not]at h;show l.take i.toNat=l;exact List.take_of_length_le (by omega)
 ·rintro s hs;rw[show s=l from hs];exact .skip (.done (by simp[aI,bh]) rfl)
noncomputable def pJ(l:List cu)(r:aq):Option aq:=if(jR (oa r) l r).2=true then some (jR (oa r) l r).1 else none
noncomputable def uB(l:List cu)(rs:List aq):List aq:=rs.filterMap (pJ l)
theorem BB{l:List cu}{rs:List aq}{k:Nat}{y:aq}(h:rs[k]? =some y):(rs.take (k+1)).filterMap (pJ l)=(rs.take k).filterMap (pJ l)++(pJ l y).toList:=by
 rw[eW h,List.filterMap_append];cases hk:pJ l y<;>simp[hk]
theorem Tv(l:List cu)(rs:List aq)(hr:∀r∈rs,rL r)(hl:∀x∈l,zh x):∀r∈uB l rs,RO r:=by
 intro r h;obtain⟨y,hy,he⟩:=List.mem_filterMap.1 h;unfold pJ at he;split at he
 ·cases he;exact J1 _ l y (hr y hy) hl
 ·cases he
theorem PW(N:Nat)(l:List cu)(rs:List aq)(hl:l.length≤20)(hrl:rs.length≤20)(hX:∀x∈l,zh x)(hR:∀r∈rs,rL r)(hN:3000≤N):cr N (fun n=>BA.S n (l,rs)) fun(v:List aq)=>v=uB l rs:=by
 refine(?_ :bk N (wC l rs) _);unfold wC;refine .skip (.op () rfl (.skip (.loop (fun(a:Int×List aq)=>(0≤a.1∧a.1≤(rs.length:Int))∧a.2=(rs.take a.1.toNat).filterMap (pJ l)) (fun a=>((rs.length:Int) - a.1).toNat) (fun(s:List aq)=>s=uB l rs) rfl ⟨⟨by simp,by simp⟩,by simp⟩ ?_ ?_ ?_)))
 ·simp;omega
 ·rintro⟨i,acc⟩ ⟨⟨g0,g1⟩,ha⟩;simp only at g0 g1 ha ⊢;subst ha;have hlen:((rs.take i.toNat).filterMap (pJ l)).length≤20:=Nat.le_trans (List.length_filterMap_le _ _) (by rw[List.length_take];omega)
  refine .skip (.br (fun h=>.skip ?_) fun h=>.skip (.done rfl ?_))
  ·simp only[decide_eq_true_eq]at h;obtain⟨y,hy,hg⟩:=fq rs aG 38 i g0 h;have hm:=List.mem_of_getElem? hg;refine .op y hy (.skip (.call _ (JW N l y (hR y hm) hX (by omega) (by omega)) fun v hv=>.skip ?_))
   rw[show v=jR (oa y) l y from hv];refine .br (fun h2=>.skip (.op () (nj ⟨rfl,by simp[roomy];omega⟩) (.skip (.done rfl ?_)))) fun h2=>.skip (.done rfl ?_)
   ·have hk:pJ l y=some (jR (oa y) l y).1:=if_pos h2;rw[wrap_i64 (by omega) (by omega)]
    refine⟨⟨⟨by simp only;omega,by simp only;omega⟩,?_⟩,by simp only;omega⟩
    simp only
    rw[show(i+1).toNat=i.toNat+1 by omega,BB hg,hk];rfl
   ·have hk:pJ l y=none:=if_neg (by rw[h2];simp)
    rw[wrap_i64 (by omega) (by omega)]
    refine⟨⟨⟨by simp only;omega,by simp only;omega⟩,?_⟩,by simp only;omega⟩
    simp only
    rw[show(i+1).toNat=i.toNat+1 by omega,BB hg,hk];simp
  ·simp only[decide_eq_false_iff_not]at h;show(rs.take i.toNat).filterMap (pJ l)=uB l rs;rw[List.take_of_length_le (by omega)];rfl
 ·rintro s hs;rw[show s=uB l rs from hs];exact .skip (.done (by simp[aI,bh]) rfl)
theorem Nl(N:Nat)(l:List cu)(rs:List aq)(hl:l.length≤20)(hrl:rs.length≤20)(hX:∀x∈l,zh x)(hR:∀r∈rs,rL r)(okA:∀x∈l,sN x.Add)(wL:∀r∈rs,sN r.A.aY)(hN:3000≤N):cr N (fun n=>CB.S n (l,rs)) fun(v:List aq)=>v=uB l rs:=by
 refine(?_ :bk N (xB l rs) _);unfold xB;refine .skip (.loop (fun(a:Int×List aq)=>(0≤a.1∧a.1≤(rs.length:Int))∧a.2=(rs.take a.1.toNat).filterMap (pJ l)) (fun a=>((rs.length:Int) - a.1).toNat) (fun(s:List aq)=>s=uB l rs) rfl ⟨⟨by simp,by simp⟩,by simp⟩ ?_ ?_ ?_)
 ·simp;omega
 ·rintro⟨i,acc⟩ ⟨⟨g0,g1⟩,ha⟩;simp only at g0 g1 ha ⊢;subst ha;have hlen:((rs.take i.toNat).filterMap (pJ l)).length≤20:=Nat.le_trans (List.length_filterMap_le _ _) (by rw[List.length_take];omega)
  refine .skip (.op () rfl (.skip (.br (fun h=>.skip ?_) fun h=>.skip (.done rfl ?_))))
  ·simp only[decide_eq_true_eq]at h;obtain⟨y,hy,hg⟩:=fq rs aG 38 i g0 h;have hm:=List.mem_of_getElem? hg;refine .op y hy (.skip (.call _ (EU N l y (hR y hm) (wL y hm) hX okA (by omega) (by omega)) fun v hv=>.skip ?_))
   rw[show v=jR (oa y) l y from hv];refine .br (fun h2=>.skip (.op () (nj ⟨rfl,by simp[roomy];omega⟩) (.skip (.done rfl ?_)))) fun h2=>.skip (.done rfl ?_)
   ·have hk:pJ l y=some (jR (oa y) l y).1:=if_pos h2;rw[wrap_i64 (by omega) (by omega)]
    refine⟨⟨⟨by simp only;omega,by simp only;omega⟩,?_⟩,by simp only;omega⟩
    simp only
    rw[show(i+1).toNat=i.toNat+1 by omega,BB hg,hk];rfl
   ·have hk:pJ l y=none:=if_neg (by rw[h2];simp)
    rw[wrap_i64 (by omega) (by omega)]
    refine⟨⟨⟨by simp only;omega,by simp only;omega⟩,?_⟩,by simp only;omega⟩
    simp only
    rw[show(i+1).toNat=i.toNat+1 by omega,BB hg,hk];simp
  ·simp only[decide_eq_false_iff_not]at h;show(rs.take i.toNat).filterMap (pJ l)=uB l rs;rw[List.take_of_length_le (by omega)];rfl
 ·rintro s hs;rw[show s=uB l rs from hs];exact .skip (.done (by simp[aI,bh]) rfl)
theorem EV(b:Bool):(!(b==b))=false:=by cases b<;>rfl
theorem RV(N:Nat)(l:List cu)(im:List Import)(rs:List aq)(hl:(l.length:Int)≤9223372036854775807)(hrs:(rs.length:Int)≤9223372036854775807)(hN:l.length+rs.length+5000≤N)
 (okA:∀x∈l,sN x.Add) (wL:∀r∈rs,sN r.A.aY):bk N (rE l im rs) fun(b:Bool)=>b=true:=by
 unfold rE;refine .skip (.call _ (RQ N) fun b4 h4=>.skip (.br (fun h=>by rw[h4]at h;cases h) fun _=>.skip (.call _ (RS N l im rs hl (by omega) hrs (by omega)) fun b6 h6=>.skip (.br (fun _=>.skip (.done rfl rfl)) fun h=>.skip ?_))))
 obtain⟨hX,hR,l20,i30,r20⟩:=h6 (nf h);refine .loop (fun(a:Int)=>0≤a∧a≤(rs.length:Int)) (fun a=>((rs.length:Int) - a).toNat) (fun(s:Unit⊕Unit)=>s=.inr ()) rfl ⟨by simp,by simp⟩ ?_ ?_ ?_
 ·simp;omega
 ·rintro a ⟨g0,g1⟩;refine .skip (.op () rfl (.skip (.br (fun h=>.skip ?_) fun h=>.skip (.done rfl rfl))))
  simp only[decide_eq_true_eq]at h;obtain⟨r,hr,hg⟩:=fq rs aG 38 a g0 h;have hrm:=List.mem_of_getElem? hg;have hLr:=hR r hrm;have hOr:=wL r hrm;refine .op r hr (.skip (.call _ (GF N r hLr) fun r48 h48=>.skip (.call _ (J2 N l l20 hX (by omega)) fun r49 h49=>.skip ?_)))
  rw[show r48=r from h48,show r49=l from h49];refine .call _ (JW N l r hLr hX (by omega) (by omega)) fun r50 h50=>.skip (.op r hr (.skip (.call _ (EU N l r hLr hOr hX okA (by omega) (by omega)) fun r52 h52=>.skip ?_)))
  rw[show r50=jR (oa r) l r from h50,show r52=jR (oa r) l r from h52];refine .call (fun(p:Prefix×Bool)=>p=fZ r) (cr.eq fun n k=>yF n r k) fun r53 h53=>.skip (.op r hr (.skip (.call (fun(p:Prefix×Bool)=>p=fZ r) (cr.eq fun n k=>AA n r k) fun r55 h55=>.skip ?_)))
  rw[show r53=fZ r from h53,show r55=fZ r from h55];refine .call _ (GG N _ (J1 _ l r hLr hX) (by omega)) fun b56 h56=>.skip (.br (fun h=>by rw[h56]at h;cases h) fun _=>.skip ?_)
  refine .br (fun h=>by rw[EV]at h;cases h) fun _=>.skip ?_
  refine .br (fun h=>by simp at h) fun _=>.skip ?_
  refine .br (fun h=>by rw[EV]at h;cases h) fun _=>.skip ?_
  refine .call _ (Vz N im (by omega)) fun r61 h61=>.skip ?_
  rw[show r61=im from h61];obtain⟨v,hv,hvI⟩:=HX 1000 im r hLr (by omega) (Nat.le_refl _)
  refine .call (fun(o:List Int)=>Ds r im o) ?_ fun r62 h62=>.skip (.op r hr (.skip (.call _ (Ja N im r hLr hOr (by omega) (by omega)) fun r64 h64=>?_)))
  ·exact⟨v,hvI,fun n hn=>by
    obtain⟨v2,hv2,hvI2⟩:=HX n im r hLr (by omega) (by omega)
    show qD.S n (im,r)=some v;rw[hv2,Oh hvI2 hvI]⟩
  rw[show r62=r64 from Oh h62 h64];have h64l:List.length (α:=Int) r64≤im.length:=h64.1.2;refine .call _ (VA N r64 (by omega) (by omega)) fun b65 h65=>.skip (.br (fun h=>by rw[h65]at h;cases h) fun _=>.skip (.op r hr (.skip ?_)))
  refine .call _ (GG N r ⟨by have:=hLr.1;omega,by have:=hLr.2.1;omega,by have:=hLr.2.2;omega⟩ (by omega)) fun b68 h68=>.skip (.br (fun h=>by rw[h68]at h;cases h) fun _=>.skip ?_)
  refine .loop (fun(k:Int)=>0≤k∧k≤(l.length:Int)) (fun k=>((l.length:Int) - k).toNat) (fun(s:Unit⊕Unit)=>s=.inr ()) rfl ⟨by simp,by simp⟩ (by simp;omega) ?_ ?_
  ·rintro k ⟨k0,k1⟩;refine .skip (.op () rfl (.skip (.br (fun h=>.skip ?_) fun h=>.skip (.done rfl rfl))))
   simp only[decide_eq_true_eq]at h;obtain⟨y,hy,hgy⟩:=fq l bI 15 k k0 h;have hXy:=hX y (List.mem_of_getElem? hgy);refine .op y hy (.skip (.call _ (Nk N r y hLr hXy (by omega)) fun b72 h72=>.skip (.op y hy (.skip (.op r hr (.skip (.call (fun(b:Bool)=>b=oa r y) ⟨_,rfl,fun n hn=>CD n y r hLr hOr hXy (by omega)⟩ fun b75 h75=>.skip (.br (fun h=>?_) fun _=>.skip (.done rfl ?_)))))))))
   ·have e1:b72=oa r y:=h72;have e2:b75=oa r y:=h75;rw[e1,e2,EV]at h;cases h
   ·rw[wrap_i64 (by omega) (by omega)]
    exact⟨⟨by omega,by omega⟩,by(try simp only);omega⟩
  ·rintro s rfl;refine .skip (.done rfl ?_);rw[wrap_i64 (by omega) (by omega)]
   exact⟨⟨by omega,by omega⟩,by(try simp only);omega⟩
 ·rintro s rfl;have hfl:(uB l rs).length≤rs.length:=List.length_filterMap_le _ _;refine .skip (.call _ (J2 N l l20 hX (by omega)) fun r87 h87=>.skip (.call _ (RU N rs r20 hR (by omega)) fun r88 h88=>?_))
  rw[show r87=l from h87,show r88=rs from h88];refine .call _ (PW N l rs l20 r20 hX hR (by omega)) fun r89 h89=>.skip (.call _ (Nl N l rs l20 r20 hX hR okA wL (by omega)) fun r90 h90=>?_)
  rw[show r89=uB l rs from h89,show r90=uB l rs from h90];exact .call _ (RT N _ (by omega) (Tv l rs hR hX) (by omega)) fun b91 h91=>.skip (.done rfl h91)
end Go.L
end
