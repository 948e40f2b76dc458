/- Parts put together. No conditions. -/
import Derived.Test.YtiohninblcifpaaGreatDoorPx
import Derived.Test.YtiohninblcifpaaGreatDoorWl
import Derived.Test.YtiohninblcifpaaGreatDoorPl
import Derived.Test.YtiohninblcifpaaGreatDoorPh
import Derived.Test.YtiohninblcifpaaGreatDoorWRl3
import Derived.Test.YtiohninblcifpaaGreatDoorWr
import Derived.Test.YtiohninblcifpaaGreatDoorWx
import Derived.Test.YtiohninblcifpaaGreatDoorWf
import Derived.Test.YtiohninblcifpaaGreatDoorPLq
import Derived.Test.YtiohninblcifpaaGreatDoorPo
set_option linter.unusedSimpArgs false
set_option linter.unusedVariables false
set_option maxRecDepth 100000
section
namespace Go.L
open Go.AM
def Md(x1 x2 x3:Int):V8 Int:=(@Go.AM.V8.mk Int x1 x2 (IntKind.wrap .u8 (Int.fdiv x3 ((2:Int) ^ (@Min.min Nat instMinNat (Int.toNat (40:Int)) (IntKind.bits .u64))))) (IntKind.wrap .u8 (Int.fdiv x3 ((2:Int) ^ (@Min.min Nat instMinNat (Int.toNat (32:Int)) (IntKind.bits .u64))))) (IntKind.wrap .u8 (Int.fdiv x3 ((2:Int) ^ (@Min.min Nat instMinNat (Int.toNat (24:Int)) (IntKind.bits .u64))))) (IntKind.wrap .u8 (Int.fdiv x3 ((2:Int) ^ (@Min.min Nat instMinNat (Int.toNat (16:Int)) (IntKind.bits .u64))))) (IntKind.wrap .u8 (Int.fdiv x3 ((2:Int) ^ (@Min.min Nat instMinNat (Int.toNat (8:Int)) (IntKind.bits .u64))))) (IntKind.wrap .u8 x3))
def oE(t:Int):V8 Int:=Md 0 2 (IntKind.wrap .u64 ((IntKind.wrap .u64 ((IntKind.wrap .u64 65000)*((2:Int) ^ (@Min.min Nat instMinNat (Int.toNat (32:Int)) (IntKind.bits .u64)))))+(IntKind.wrap .u64 t)))
def z7(a b x:Int):V8 Int:=V8.mk a b (x / 1099511627776 % 256) (x / 4294967296 % 256) (x / 16777216 % 256) (x / 65536 % 256) (x / 256 % 256) (x % 256)
theorem Rg{a0 a1 a2 a3 a4 a5 a6 a7 b0 b1 b2 b3 b4 b5 b6 b7:Int}(h0:a0=b0)(h1:a1=b1)(h2:a2=b2)(h3:a3=b3)(h4:a4=b4)(h5:a5=b5)(h6:a6=b6)(h7:a7=b7):
 V8.mk a0 a1 a2 a3 a4 a5 a6 a7=V8.mk b0 b1 b2 b3 b4 b5 b6 b7:=by subst h0 h1 h2 h3 h4 h5 h6 h7;rfl
theorem KZ(a b x:Int):(z7 a b x).a2=x / 1099511627776 % 256:=rfl
theorem K0(a b x:Int):(z7 a b x).a3=x / 4294967296 % 256:=rfl
theorem K2(a b x:Int):(z7 a b x).a4=x / 16777216 % 256:=rfl
theorem K3(a b x:Int):(z7 a b x).a5=x / 65536 % 256:=rfl
theorem K4(a b x:Int):(z7 a b x).a6=x / 256 % 256:=rfl
theorem K5(a b x:Int):(z7 a b x).a7=x % 256:=rfl
theorem K6(t:Int):DH (oE t)=1:=rfl
theorem Ho(n:Nat)(t:Int):At (wH.S n ((65000:Int),t)) (fun(r:V8 Int)=>r=oE t):=⟨_,rfl,rfl⟩
def rV(x:Int):V8 Int:=Md 6 3 x
theorem Rh(x:Int):DH (rV x)=6:=rfl
theorem ND(n:Nat)(x:Int)(h:x<281474976710656):At (Bb.S n x) (fun(r:V8 Int×Int)=>r.1=rV x):=by
 refine(?_ :cD n (wD x) _);unfold wD;exact .skip (.br (fun h2=>by simp only[gt_iff_lt,decide_eq_true_eq]at h2;omega) fun _=>.skip (.call (fun(r:V8 Int)=>r=rV x) ⟨_,rfl,rfl⟩ fun r hr=>.skip (.done rfl hr)))
theorem PZ{x:Int}(h0:0≤x):rV x=z7 6 3 x:=by
 unfold rV Md z7;refine Rg rfl rfl ?_ ?_ ?_ ?_ ?_ ?_
 all_goals simp only[IntKind.wrap_u8]
 ·show(x.fdiv (2 ^ 40)) % 256=_;rw[Int.fdiv_eq_ediv_of_nonneg _ (by decide)];rfl
 ·show(x.fdiv (2 ^ 32)) % 256=_;rw[Int.fdiv_eq_ediv_of_nonneg _ (by decide)];rfl
 ·show(x.fdiv (2 ^ 24)) % 256=_;rw[Int.fdiv_eq_ediv_of_nonneg _ (by decide)];rfl
 ·show(x.fdiv (2 ^ 16)) % 256=_;rw[Int.fdiv_eq_ediv_of_nonneg _ (by decide)];rfl
 ·show(x.fdiv (2 ^ 8)) % 256=_;rw[Int.fdiv_eq_ediv_of_nonneg _ (by decide)];rfl
theorem RX{x:Int}(h0:0≤x):R9 (rV x):=by
 rw[PZ h0];refine⟨(by show(0:Int)≤6∧(6:Int)<256;omega),(by show(0:Int)≤3∧(3:Int)<256;omega),?_,?_,?_,?_,?_,?_⟩
 ·rw[KZ];omega
 ·rw[K0];omega
 ·rw[K2];omega
 ·rw[K3];omega
 ·rw[K4];omega
 ·rw[K5];omega
theorem Qp{x:Int}(h0:0≤x)(h1:x<281474976710656):Gx (rV x)=x:=by
 rw[SH (RX h0)];unfold O6;rw[PZ h0,KZ,K0,K2,K3,K4,K5];omega
theorem Qq{a b x:Int}(h0:0≤x)(h1:x<281474976710656):Em [oE a,oE b,rV x]=(x,true):=by
 unfold Em A9;rw[List.find?_cons_of_neg (by rw[K6];decide),List.find?_cons_of_neg (by rw[K6];decide),List.find?_cons_of_pos (by rw[Rh];decide)]
 simp only
 rw[Qp h0 h1]
end Go.L
end
section
namespace Go.L
open Go.AM
theorem RA{X:Type}(l:List X)(enc:X→List AVal)(m:Nat)(i:Int)(h0:0≤i)(h1:i<(l.length:Int)):∃x,(bt l enc m i).run=some x∧l[i.toNat]? =some x:=by
 have h2:i.toNat<l.length:=by omega
 refine⟨l[i.toNat],?_,List.getElem?_eq_getElem h2⟩;show fN l i=_;simp[fN,h0,h2]
theorem QK(n:Nat)(b:cA)(x:az)(t ip:Int):At (zJ.S n (b,x,t,ip)) fun(r:cA)=>
 (r=b∧(qU t ip x→b.ok=true∧x.af.Len≤b.az.af.Len))∨(r=Go.L.cA.mk x true∧qU t ip x∧(b.ok=true→b.az.af.Len<x.af.Len)):=by
 refine(?_ :cD n (uC b x t ip) _);unfold uC;refine .skip (.br (fun h1=>.skip (.done rfl ?_)) fun h1=>.skip (.call _ (F5 n _ _) fun(c:Bool) hc=>.skip (.br (fun h2=>.skip (.done rfl ?_)) fun h2=>.skip (.br (fun h3=>.skip (.br (fun h4=>.skip (.done rfl ?_)) fun h4=>.skip (.done rfl ?_))) fun h3=>.skip (.done rfl ?_)))))
 ·exact .inl ⟨rfl,fun h=>absurd h.1 (by simpa using h1)⟩
 ·refine .inl ⟨rfl,fun h=>?_⟩
  rw[hc,h.2]at h2;cases h2
 ·exact .inl ⟨rfl,fun _=>⟨h3,by simpa using h4⟩⟩
 ·refine .inr ⟨rfl,⟨by simpa using h1,by rw[← hc];simpa using h2⟩,fun _=>?_⟩
  simp only[decide_eq_false_iff_not]at h4;omega
 ·refine .inr ⟨rfl,⟨by simpa using h1,by rw[← hc];simpa using h2⟩,fun h=>?_⟩
  rw[h]at h3;cases h3
def F8(l:List az)(t ip:Int)(i:Int)(b:cA):Prop:=
 (b.ok=false→b.az=B9∧∀(j:Nat) z,j<i.toNat→l[j]? =some z→¬qU t ip z)∧
 (b.ok=true→∃(j:Nat),j<i.toNat∧l[j]? =some b.az∧qU t ip b.az∧(∀(k:Nat) z,k<i.toNat→l[k]? =some z→qU t ip z→z.af.Len≤b.az.af.Len)∧(∀(k:Nat) z,k<j→l[k]? =some z→qU t ip z→z.af.Len<b.az.af.Len))
theorem F8.step{l:List az}{t ip i:Int}{b r:cA}{x:az}(h0:0≤i)(hg:l[i.toNat]? =some x)(h:F8 l t ip i b)
 (hr:(r=b∧(qU t ip x→b.ok=true∧x.af.Len≤b.az.af.Len))∨(r=Go.L.cA.mk x true∧qU t ip x∧(b.ok=true→b.az.af.Len<x.af.Len))):F8 l t ip (i+1) r:=by
 have e1:(i+1).toNat=i.toNat+1:=by omega
 rcases hr with⟨rfl,hn⟩ |⟨rfl,hh,hlt⟩
 ·refine⟨fun hk=>⟨(h.1 hk).1,fun j z hj hz hit=>?_⟩,fun hk=>?_⟩
  ·by_cases hje:j=i.toNat
   ·subst hje;rw[hg]at hz;cases hz;rw[(hn hit).1]at hk;cases hk
   ·exact(h.1 hk).2 j z (by omega) hz hit
  ·obtain⟨j,q1,q2,q3,q4,q5⟩:=h.2 hk;refine⟨j,by omega,q2,q3,fun k z hkk hz hit=>?_,q5⟩
   by_cases hje:k=i.toNat
   ·subst hje;rw[hg]at hz;cases hz;exact(hn hit).2
   ·exact q4 k z (by omega) hz hit
 ·refine⟨fun hk=>(by cases hk),fun _=>⟨i.toNat,by omega,hg,hh,fun k z hkk hz hit=>?_,fun k z hkk hz hit=>?_⟩⟩
  ·by_cases hje:k=i.toNat
   ·subst hje;rw[hg]at hz;cases hz;exact Int.le_refl _
   ·cases hb:b.ok with
    |false=>exact absurd hit ((h.1 hb).2 k z (by omega) hz)
    |true=>
     obtain⟨j,q1,q2,q3,q4,q5⟩:=h.2 hb;have:=q4 k z (by omega) hz hit
     have:=hlt hb;show z.af.Len≤x.af.Len;omega
  ·cases hb:b.ok with
   |false=>exact absurd hit ((h.1 hb).2 k z hkk hz)
   |true=>
    obtain⟨j,q1,q2,q3,q4,q5⟩:=h.2 hb;have:=q4 k z hkk hz hit;have:=hlt hb;show z.af.Len<x.af.Len;omega
abbrev Sa:=Prod Int (Prod Int (Prod Int (Prod Int (Prod Int (Prod Int (Prod Int (Prod Int (Prod Int Bool))))))))
def P7(a:Sa):cA:=Go.L.cA.mk (Go.L.az.mk a.2.1 (Go.L.af.mk a.2.2.1 a.2.2.2.1) a.2.2.2.2.1 a.2.2.2.2.2.1 a.2.2.2.2.2.2.1 a.2.2.2.2.2.2.2.1 a.2.2.2.2.2.2.2.2.1) a.2.2.2.2.2.2.2.2.2
theorem Og(n:Nat)(l:List az)(t ip:Int)(hl:l.length<100000)(hn:l.length<n):At (sZ.S n (l,t,ip)) fun(r:Prod az Bool)=>F8 l t ip (l.length:Int) (Go.L.cA.mk r.1 r.2):=by
 refine(?_ :cD n (wO l t ip) _);unfold wO;refine .skip (.call (fun(r:cA)=>F8 l t ip (l.length:Int) r) ?_ fun r hr=>.skip (.done rfl hr))
 refine(?_ :cD n (kH l _ t ip) _);unfold kH;refine .skip (.op () rfl (.skip (.loop (fun(a:Sa)=>0≤a.1∧a.1≤(l.length:Int)∧F8 l t ip a.1 (P7 a)) (fun a=>((l.length:Int) - a.1).toNat)
  (fun(u:Prod Int (Prod Int (Prod Int (Prod Int (Prod Int (Prod Int (Prod Int (Prod Int Bool))))))))=>F8 l t ip (l.length:Int) (P7 ((0:Int),u))) rfl ⟨Int.le_refl _,by simp,⟨fun _=>⟨rfl,fun j z hj=>by simp at hj⟩,fun h=>by cases h⟩⟩ (by simp;omega) ?_ ?_)))
 ·rintro a ⟨h0,h1,h2⟩;refine .skip (.br (fun h=>.skip ?_) fun h=>.skip (.done rfl ?_))
  ·have hlt:a.1<(l.length:Int):=by simpa using h
   obtain⟨x,hx,hg⟩:=RA l dF 8 a.1 h0 hlt;refine .op x hx (.skip (.call _ (QK n (P7 a) x t ip) fun(r:cA) hr=>.skip (.done rfl ?_)))
   rw[wrap_i64 (by omega) (by omega)]
   exact⟨⟨by show 0≤a.1+1;omega,by show a.1+1≤_;omega,F8.step h0 hg h2 hr⟩,by(try simp only);omega⟩
  ·have hge:¬a.1<(l.length:Int):=by simpa using h
   have e:a.1=(l.length:Int):=by omega
   show F8 l t ip (l.length:Int) (P7 a);rw[← e];exact h2
 ·intro u hu;exact .skip (.done rfl hu)
theorem JW(n:Nat)(l:List az)(t ip:Int)(hl:l.length<100000)(hn:l.length<n):At (sZ.S n (l,t,ip)) (fun(r:az×Bool)=>Found l t ip r):=by
 refine(Og n l t ip hl hn).mono fun r h=>⟨fun hk=>?_,fun hk=>?_⟩
 ·obtain⟨h1,h2⟩:=h.1 hk;refine⟨h1,fun z hz hh=>?_⟩
  obtain⟨i,hi,rfl⟩:=List.getElem_of_mem hz;exact h2 i _ (by omega) (List.getElem?_eq_getElem hi) hh
 ·obtain⟨j,q1,q2,q3,q4,_⟩:=h.2 hk;refine⟨List.mem_of_getElem? q2,q3,fun z hz hh=>?_⟩
  obtain⟨i,hi,rfl⟩:=List.getElem_of_mem hz;exact q4 i _ (by omega) (List.getElem?_eq_getElem hi) hh
end Go.L
end
section
namespace Go.L
noncomputable section
open Go.AM
def yg(x1:(List Int))(x2:Int):G prog (Sh.El (.one Bool)):=
 .skip 2<|.loop (.two (.one Unit) (.one Unit)) [.keep [0,1,5]] (fun(a:Int)=>⟨(ap [(.aB (List.map (eI .i64) x1)),(si x2),.ak,.ak,.ak,si a] (jl 12)),[],[]⟩)
  (Sum.elim (fun(_:Unit)=>(.ret,⟨(ap (jl 4) (ap [(sb true)] (jl 13))),[],[]⟩)) (fun(_:Unit)=>(.exit 0,⟨(jl 18),[],[]⟩))) (0:Int)
  (fun(a3:Int)=>.skip 2<|.op (bB x1 (eI .i64)) fun _=>.skip 1<|.br 9 (decide (a3<(x1.length:Int))) (.skip 3<|.op (bt x1 (eI .i64) 1 a3) fun x4=>.skip 3<|.br 17 (x4==x2) (.skip 2<|.done [.keep [4]] (.inr (.inl ()))) (.skip 4<|.done [.keep [0,1,5]] (.inl (IntKind.wrap .i64 (a3+1))))) (.skip 1<|.done [.keep []] (.inr (.inr ()))))
  (Sum.elim (fun _=>.done [] true) (fun _=>.skip 1<|.done [] false))
def Ck:aK prog:=aK.of Dj 10 29 ((List Int)×Int) (fun x=>[.aB (x.1.map (eI .i64)),si x.2]) (.one Bool) (fun r=>.ret (sb r)) (fun x=>yg x.1 x.2) (fun x=>by kernel_rfl)
def Ca(x1:av)(x2:Int):G prog (Sh.El (.one (List Int))):=
 .skip 4<|.call xW x1 fun(r3:Bool)=>.skip 1<|.br 9 (!r3) (.skip 3<|.done [] []) (.skip 2<|.loop (.one (List Int)) [.keep [1,2,5,6],.cut [0] [] [],.own (.s 5) 1] (fun(a:(Int×List Int))=>⟨(ap [.ak,(si x2),(.ptr 0 0 0 0),.ak,.ak,.sl 1 0 1 0 a.2.length,si a.1] (jl 24)),[.row 0 19 [aJ x1],.row 0 1 (a.2.map (eI .i64))],[]⟩)
  (fun(t:(List Int))=>(.exit 0,⟨(ap (jl 5) (ap [.sl 1 0 1 0 t.length] (jl 25))),[.row 0 19 [aJ x1],.row 0 1 (t.map (eI .i64))],[]⟩)) ((0:Int),[])
  (fun(a17:(Int×List Int))=>.skip 3<|.op (bB x1.ax bz) fun _=>.skip 1<|.br 15 (decide (a17.1<(x1.ax.length:Int))) (.skip 4<|.op (bt x1.ax bz 2 a17.1) fun x18=>.skip 3<|.call qL (x18.Leaves,x2) fun(r19:Bool)=>.br 25 r19 (.skip 4<|.op (vc (List.length a17.2) a17.2 [a17.1] (eI .i64) 1 8 1 0 3 [2]) fun _=>.skip 4<|.done [.keep [1,2,5,6],.cut [0,1] [] [cC 1 1 1 (a17.2++[a17.1]) (eI .i64) fun _=>rfl]] (.inl ((IntKind.wrap .i64 (a17.1+1)),(a17.2++[a17.1])))) (.skip 4<|.done [.keep [1,2,5,6],.cut [0,1] [] [cC 1 0 1 a17.2 (eI .i64) fun _=>rfl]] (.inl ((IntKind.wrap .i64 (a17.1+1)),a17.2)))) (.skip 1<|.done [.keep [5],.cut [0,1] [] [cC 1 0 1 a17.2 (eI .i64) fun _=>rfl]] (.inr a17.2)))
  (fun(t23:(List Int))=>.skip 2<|.done [.gu (fC (.s 4) 1 0 1 (List.length t23) t23 (eI .i64) fun _=>rfl)] t23))
def F9:aK prog:=aK.of Dj 10 28 (av×Int) (fun x=>[.agg (aJ x.1),si x.2]) (.one (List Int)) (fun r=>.ret (.aB (r.map (eI .i64)))) (fun x=>Ca x.1 x.2) (fun x=>by kernel_rfl)
def Oi(r10:av)(x14:BD)(r18:(V8 Int×Int))(x6:Int)(r16:Int)(x19:au)(r17:Int)(r20:(V8 Int))(r22:(V8 Int)):List ah:=[(.row 0 19 [[(si r10.Leaves),(si r10.cO),(.aB (List.map dn r10.Links)),(.aB (List.map aQ r10.aA)),(.aB (List.map cU r10.aG)),(.aB (List.map bz r10.ax)),(.aB (List.map bO r10.Hosts)),sn,(si r10.nR),(si r10.jq),(si r10.bD),(sb r10.ou),(sb r10.xb),(si r10.bC.nQ),(si r10.bC.wo),(si r10.bC.z6),(si r10.bC.mK),(si r10.bC.sM),(si r10.bC.Window)]]),.row 0 6 [cU x14],.row 0 8 [(tK (cI .u8)) r18.1],.dead,(.row 0 38 [[(si 2),(sq 1),(s8 0),(s8 0),(s8 0),(s8 0),(s8 0),(s8 0),(s8 0),(s8 0),(s8 0),(s8 0),(su 0),(sq x6),(su (IntKind.wrap .u32 (x14.ay.IP+(IntKind.wrap .u32 r16)))),(sb true),(su 0),(si 0),(su 0),(su x14.aZ),(su x19.aZ),(si 0),.aB [],(su r17),(sb false),(su 0),(sb false),(su 0),(sb false),(su 0),.aB [],(.aB (List.map (tK (cI .u8)) [r20,r22,r18.1])),(si 0),(su 0),(su 0),(su 0),(su 0),(sb false)]])]
def sr(x1:(List Int))(x2:Int)(x3:Int)(x4:Int)(x5:Int)(x6:Int):G prog (Sh.El (.one Bool)):=
 .skip 1<|.call yf () fun(r7:Bool)=>.skip 1<|.br 28 (!r7) (.skip 2<|.done [] false) (.skip 2<|.op (bB x1 (eI .i64)) fun _=>.skip 1<|.br 31 (decide ((x1.length:Int)>200)) (.skip 2<|.done [] true) (.skip 2<|.call C5 x1 fun(r10:av)=>.skip 7<|.call vJ (x2,r10.Leaves) fun(r11:Int)=>.skip 3<|.op (bB r10.aG cU) fun _=>.call vJ (x3,(r10.aG.length:Int)) fun(r12:Int)=>.skip 3<|.call vJ (x4,r10.Leaves) fun(r13:Int)=>.skip 6<|.op (bt r10.aG cU 6 r12) fun x14=>.skip 6<|.br 55 (x14.aM==0) (.skip 2<|.done [] true) (.skip 9<|.op (Gp .i64 .i64 (1:Int) (IntKind.wrap .i64 (32 - x14.ay.Len))) fun _=>.call vJ (x5,(IntKind.wrap .i64 ((1:Int)*((2:Int) ^ (@Min.min Nat instMinNat (Int.toNat (IntKind.wrap .i64 (32 - x14.ay.Len))) (IntKind.bits .i64)))))) fun(r16:Int)=>.skip 5<|.call zm ((av.mk r10.Leaves r10.cO r10.Links r10.aA r10.aG r10.ax r10.Hosts [] r10.nR r10.jq r10.bD r10.ou r10.xb r10.bC),r13) fun(r17:Int)=>.skip 4<|.call Bb (IntKind.wrap .u64 ((2199023255552:Int)+(IntKind.wrap .u64 r13))) fun(r18:(V8 Int×Int))=>.skip 14<|.op (bt r10.aA aQ 2 x14.au) fun x19=>.skip 6<|.call wH ((65000:Int),x14.Target) fun(r20:(V8 Int))=>.skip 4<|.op (bt r10.aA aQ 2 x14.au) fun x21=>.skip 2<|.call wH ((65000:Int),x21.Target) fun(r22:(V8 Int))=>.skip 6<|.tidy [.wk (.c 19 22),.wk (.c 19 30),.gu (fC (.c 19 31) 3 0 8 3 [r20,r22,r18.1] (tK (cI .u8)) fun _=>rfl)]<|.skip 3<|.call F9 ((av.mk r10.Leaves r10.cO r10.Links r10.aA r10.aG r10.ax r10.Hosts [] r10.nR r10.jq r10.bD r10.ou r10.xb r10.bC),r11) fun(r23:(List Int))=>.skip 2<|.loop (.one Bool) [.keep [1,2,3,5,13,14,15,16,19,20,21,22]] (fun(a:(Bool×Int))=>⟨(ap [.ak,(si r11),(si r12),(si r13),.ak,(sq x6)] (ap (jl 7) (ap [(.ptr 0 0 0 0),(.ptr 1 0 0 0),(su (IntKind.wrap .u32 (x14.ay.IP+(IntKind.wrap .u32 r16)))),(su r17),.ak,.ak,(.ptr 4 0 0 0),sb a.1,(.aB (List.map (eI .i64) r23)),si a.2] (jl 209)))),(Oi r10 x14 r18 x6 r16 x19 r17 r20 r22),[]⟩)
  (fun(t:Bool)=>(.exit 0,⟨(ap [.ak,(si r11),(si r12),(si r13),.ak,(sq x6)] (ap (jl 7) (ap [(.ptr 0 0 0 0),(.ptr 1 0 0 0),(su (IntKind.wrap .u32 (x14.ay.IP+(IntKind.wrap .u32 r16)))),(su r17),.ak,.ak,(.ptr 4 0 0 0),sb t] (jl 211)))),(Oi r10 x14 r18 x6 r16 x19 r17 r20 r22),[]⟩)) (false,(0:Int))
  (fun(a24:(Bool×Int))=>.skip 2<|.op (bB r23 (eI .i64)) fun _=>.skip 1<|.br 112 (decide (a24.2<(r23.length:Int))) (.skip 3<|.br 116 a24.1 (.skip 16<|.done [.keep [1,2,3,5,13,14,15,16,19,20,21,22]] (.inl (true,(IntKind.wrap .i64 (a24.2+1))))) (.skip 4<|.op (bt r23 (eI .i64) 1 a24.2) fun x26=>.skip 1<|.op (bt r10.ax bz 2 x26) fun x27=>.skip 3<|.call Ck (x27.aG,r12) fun(r28:Bool)=>.skip 5<|.done [.keep [1,2,3,5,13,14,15,16,19,20,21,22]] (.inl (r28,(IntKind.wrap .i64 (a24.2+1)))))) (.skip 1<|.done [.keep [1,2,3,5,13,14,15,16,19,20]] (.inr a24.1)))
  (fun(t31:Bool)=>.skip 4<|.cB wP 5 0 [] ([(bZ.mk (ia.mk (2:Int) (1:Int) (@cF.mk Int (0:Int) (0:Int) (0:Int) (0:Int) (0:Int) (0:Int) (0:Int) (0:Int) (0:Int) (0:Int)) (0:Int) x6 (IntKind.wrap .u32 (x14.ay.IP+(IntKind.wrap .u32 r16))) true (af.mk (0:Int) (0:Int)) (0:Int) x14.aZ x19.aZ) (L6.mk (0:Int) [] r17 false (0:Int) false (0:Int) false (0:Int) [] [r20,r22,r18.1] (xz.mk (0:Int) (0:Int) (0:Int) (0:Int))) (0:Int) false)],(av.mk r10.Leaves r10.cO r10.Links r10.aA r10.aG r10.ax r10.Hosts [] r10.nR r10.jq r10.bD r10.ou r10.xb r10.bC),r11,[],1) fun(r32:(List az))=>.skip 3<|.call sZ (r32,x14.au,(IntKind.wrap .u32 (x14.ay.IP+(IntKind.wrap .u32 r16)))) fun(r33:(az×Bool))=>.skip 8<|.cR (H6 8) ((av.mk r10.Leaves r10.cO r10.Links r10.aA r10.aG r10.ax r10.Hosts [] r10.nR r10.jq r10.bD r10.ou r10.xb r10.bC),r11,[],[]) fun(r34:(List az))=>.skip 3<|.call sZ (r34,x14.au,(IntKind.wrap .u32 (x14.ay.IP+(IntKind.wrap .u32 r16)))) fun(r35:(az×Bool))=>.skip 10<|.br 154 (!(r35.2==t31)) (.skip 22<|.done [] false) (.skip 2<|.br 156 r35.2 (.skip 5<|.br 161 (r35.1.BD != r12) (.skip 15<|.done [] false) (.skip 5<|.br 166 (r35.1.aS != 0) (.skip 10<|.done [] false) (.skip 8<|.br 174 (!((r35.1.af.IP==x14.ay.IP)&&((r35.1.af.Len==x14.ay.Len)&&true))) (.skip 2<|.done [] false) (.skip 3<|.br 177 t31 (.skip 4<|.br 181 (r13==r11) (.skip 9<|.br 188 r33.2 (.skip 11<|.done [] ((r33.1.au==x14.au)&&((r33.1.af.IP==(IntKind.wrap .u32 (x14.ay.IP+(IntKind.wrap .u32 r16))))&&((r33.1.af.Len==32)&&((r33.1.BD==r12)&&((r33.1.Next==0)&&((r33.1.aZ==0)&&((r33.1.aS==x6)&&((r33.1.bD==0)&&true))))))))) (.skip 11<|.done [] false)) (.skip 6<|.br 175 (r10.bD==1) (.skip 3<|.br 188 r33.2 (.skip 11<|.done [] ((r33.1.au==x14.au)&&((r33.1.af.IP==(IntKind.wrap .u32 (x14.ay.IP+(IntKind.wrap .u32 r16))))&&((r33.1.af.Len==32)&&((r33.1.BD==r12)&&((r33.1.Next==0)&&((r33.1.aZ==0)&&((r33.1.aS==x6)&&((r33.1.bD==0)&&true))))))))) (.skip 11<|.done [] false)) (.skip 5<|.br 199 (r13==r11) .fail (.skip 3<|.br 212 r33.2 (.skip 10<|.op (bt r10.aA aQ 2 x14.au) fun x44=>.skip 9<|.done [] ((r33.1.au==x14.au)&&((r33.1.af.IP==(IntKind.wrap .u32 (x14.ay.IP+(IntKind.wrap .u32 r16))))&&((r33.1.af.Len==32)&&((r33.1.BD==(-(1:Int)))&&((r33.1.Next==r17)&&((r33.1.aZ==x44.aZ)&&((r33.1.aS==0)&&((r33.1.bD==(IntKind.wrap .u64 ((2199023255552:Int)+(IntKind.wrap .u64 r13))))&&true))))))))) (.skip 20<|.done [] false))))) (.skip 15<|.br 199 (r13==r11) (.skip 5<|.br 206 (r33.2==r35.2) (.skip 5<|.done [] ((r33.1.au==r35.1.au)&&((r33.1.af.IP==r35.1.af.IP)&&((r33.1.af.Len==r35.1.af.Len)&&((r33.1.BD==r35.1.BD)&&((r33.1.Next==r35.1.Next)&&((r33.1.aZ==r35.1.aZ)&&((r33.1.aS==r35.1.aS)&&((r33.1.bD==r35.1.bD)&&true))))))))) (.skip 5<|.done [] false)) (.skip 3<|.br 212 r33.2 (.skip 10<|.op (bt r10.aA aQ 2 x14.au) fun x49=>.skip 9<|.done [] ((r33.1.au==x14.au)&&((r33.1.af.IP==(IntKind.wrap .u32 (x14.ay.IP+(IntKind.wrap .u32 r16))))&&((r33.1.af.Len==32)&&((r33.1.BD==(-(1:Int)))&&((r33.1.Next==r17)&&((r33.1.aZ==x49.aZ)&&((r33.1.aS==0)&&((r33.1.bD==(IntKind.wrap .u64 ((2199023255552:Int)+(IntKind.wrap .u64 r13))))&&true))))))))) (.skip 20<|.done [] false))))))) (.skip 21<|.br 177 t31 (.skip 4<|.br 181 (r13==r11) (.skip 9<|.br 188 r33.2 (.skip 11<|.done [] ((r33.1.au==x14.au)&&((r33.1.af.IP==(IntKind.wrap .u32 (x14.ay.IP+(IntKind.wrap .u32 r16))))&&((r33.1.af.Len==32)&&((r33.1.BD==r12)&&((r33.1.Next==0)&&((r33.1.aZ==0)&&((r33.1.aS==x6)&&((r33.1.bD==0)&&true))))))))) (.skip 11<|.done [] false)) (.skip 6<|.br 175 (r10.bD==1) (.skip 3<|.br 188 r33.2 (.skip 11<|.done [] ((r33.1.au==x14.au)&&((r33.1.af.IP==(IntKind.wrap .u32 (x14.ay.IP+(IntKind.wrap .u32 r16))))&&((r33.1.af.Len==32)&&((r33.1.BD==r12)&&((r33.1.Next==0)&&((r33.1.aZ==0)&&((r33.1.aS==x6)&&((r33.1.bD==0)&&true))))))))) (.skip 11<|.done [] false)) (.skip 5<|.br 199 (r13==r11) .fail (.skip 3<|.br 212 r33.2 (.skip 10<|.op (bt r10.aA aQ 2 x14.au) fun x56=>.skip 9<|.done [] ((r33.1.au==x14.au)&&((r33.1.af.IP==(IntKind.wrap .u32 (x14.ay.IP+(IntKind.wrap .u32 r16))))&&((r33.1.af.Len==32)&&((r33.1.BD==(-(1:Int)))&&((r33.1.Next==r17)&&((r33.1.aZ==x56.aZ)&&((r33.1.aS==0)&&((r33.1.bD==(IntKind.wrap .u64 ((2199023255552:Int)+(IntKind.wrap .u64 r13))))&&true))))))))) (.skip 20<|.done [] false))))) (.skip 15<|.br 199 (r13==r11) (.skip 5<|.br 206 (r33.2==r35.2) (.skip 5<|.done [] ((r33.1.au==r35.1.au)&&((r33.1.af.IP==r35.1.af.IP)&&((r33.1.af.Len==r35.1.af.Len)&&((r33.1.BD==r35.1.BD)&&((r33.1.Next==r35.1.Next)&&((r33.1.aZ==r35.1.aZ)&&((r33.1.aS==r35.1.aS)&&((r33.1.bD==r35.1.bD)&&true))))))))) (.skip 5<|.done [] false)) (.skip 3<|.br 212 r33.2 (.skip 10<|.op (bt r10.aA aQ 2 x14.au) fun x61=>.skip 9<|.done [] ((r33.1.au==x14.au)&&((r33.1.af.IP==(IntKind.wrap .u32 (x14.ay.IP+(IntKind.wrap .u32 r16))))&&((r33.1.af.Len==32)&&((r33.1.BD==(-(1:Int)))&&((r33.1.Next==r17)&&((r33.1.aZ==x61.aZ)&&((r33.1.aS==0)&&((r33.1.bD==(IntKind.wrap .u64 ((2199023255552:Int)+(IntKind.wrap .u64 r13))))&&true))))))))) (.skip 20<|.done [] false)))))))))
def xL:aK prog:=aK.of Dj 10 6 ((List Int)×Int×Int×Int×Int×Int) (fun x=>[.aB (x.1.map (eI .i64)),si x.2.1,si x.2.2.1,si x.2.2.2.1,si x.2.2.2.2.1,sq x.2.2.2.2.2]) (.one Bool) (fun r=>.ret (sb r)) (fun x=>sr x.1 x.2.1 x.2.2.1 x.2.2.2.1 x.2.2.2.2.1 x.2.2.2.2.2) (fun x=>by kernel_rfl)
end
end Go.L
end
section
namespace Go.L
open Go.AM
theorem QO(n:Nat)(l:List Int)(x:Int)(hl:l.length<100000)(hn:l.length<n):At (Ck.S n (l,x)) (fun(b:Bool)=>b=decide (x∈l)):=by
 refine(?_ :cD n (yg l x) _);unfold yg;refine .skip (.loop (fun a:Int=>dW l (fun pre (_:Unit)=>x∉pre) (a,())) (fun a=>l.length - a.toNat) (Sum.elim (fun _=>x∈l) fun _=>x∉l) rfl (dW.start (fun h=>(by cases h))) (by simpa using hn) (fun a ha=>?_) (fun t ht=>?_))
 ·refine .skip (.op () rfl (.skip (.br (fun h=>?_) fun h=>.skip (.done rfl (ha.fin h)))))
  obtain⟨y,pre,h1,h2,h3,_,h4⟩:=ha.get h;refine .skip (.op y h1 (.skip (.br (fun he=>.skip (.done rfl ?_)) fun he=>.skip (.done rfl ?_))))
  ·rw[beq_iff_eq]at he;show x∈l;rw[← he];exact h2
  ·rw[beq_eq_false_iff_ne]at he;refine h4 hl () fun hx=>?_
   rcases List.mem_append.1 hx with hx |hx
   ·exact h3 hx
   ·simp only[List.mem_singleton]at hx;exact he hx.symm
 ·cases t with
  |inl t=>exact .done rfl (decide_eq_true (p:=x∈l) ht).symm
  |inr t=>exact .skip (.done rfl (decide_eq_false (p:=x∈l) ht).symm)
theorem Bk{α:Type}{l:List α}{x y:α}{i:Int}:fN (l++[x]) i=some y↔fN l i=some y∨(i=(l.length:Int)∧x=y):=by
 unfold fN;by_cases h0:0≤i
 ·rw[if_pos (by simpa using h0),if_pos (by simpa using h0)]
  rcases Nat.lt_trichotomy i.toNat l.length with h |h |h
  ·rw[List.getElem?_append_left h];constructor
   ·exact .inl
   ·rintro(h2 |⟨h2,_⟩)
    ·exact h2
    ·omega
  ·rw[List.getElem?_append_right (by omega),List.getElem?_eq_none (l:=l) (by omega),show i.toNat - l.length=0 by omega]
   simp only[List.getElem?_cons_zero,Option.some.injEq,reduceCtorEq,false_or];constructor
   ·exact fun h=>⟨by omega,h⟩
   ·exact fun h=>h.2
  ·rw[List.getElem?_eq_none (by simp;omega),List.getElem?_eq_none (l:=l) (by omega)]
   simp only[reduceCtorEq,false_or,false_iff,not_and];intro h2;omega
 ·rw[if_neg (by simpa using h0),if_neg (by simpa using h0)]
  simp only[reduceCtorEq,false_or,false_iff,not_and];intro h2;omega
theorem Sx(n:Nat)(hn:5000≤n)(f:av)(hv:Vf f)(leaf:Int):At (F9.S n (f,leaf)) (fun(L:List Int)=>L.length≤6∧∀i:Int,i∈L↔∃s,fN f.ax i=some s∧leaf∈s.Leaves):=by
 refine(?_ :cD n (Ca f leaf) _);unfold Ca;have hs:=hv.segments;refine .skip (.call _ (F7 n hn f hv) fun(r:Bool) hr=>.skip (.br (fun h=>by rw[hr]at h;cases h) fun _=>.skip ?_))
 refine .loop (fun a=>dW f.ax (fun pre (out:List Int)=>out.length≤pre.length∧∀i:Int,i∈out↔∃s,fN pre i=some s∧leaf∈s.Leaves) a) (fun a=>f.ax.length - a.1.toNat) (fun(L:List Int)=>L.length≤6∧∀i:Int,i∈L↔∃s,fN f.ax i=some s∧leaf∈s.Leaves) rfl (dW.start ⟨Nat.le_refl _,fun i=>⟨fun h=>(by cases h),fun⟨s,h,_⟩=>by unfold fN at h;split at h<;>cases h⟩⟩) (by simp;omega) (fun a ha=>?_) (fun t ht=>.skip (.done (by simp only[aN,fC,Bool.and_true];exact decide_eq_true (List.length_map ..).symm) ht))
 refine .skip (.op () rfl (.skip (.br (fun g=>?_) fun g=>.skip (.done rfl ⟨Nat.le_trans (ha.fin g).1 (by omega),(ha.fin g).2⟩))))
 obtain⟨s,pre,h1,h2,⟨p1,p2⟩,⟨q1,post,q2⟩,h4⟩:=ha.get g;have hpl:pre.length<f.ax.length:=by rw[q2];simp
 obtain⟨⟨a1,a2,a3,a4⟩,b1,b2,b3,b4⟩:=hv.seg s h2;have hl:=hv.leaves;have hb:=hv.jB;refine .skip (.op s h1 (.skip (.call _ (At.eq fun k=>GJ n s.Leaves leaf (by omega) (by omega) k) fun(c:Bool) hc=>.br (fun e=>.skip (.op () (if_pos ⟨rfl,by show roomy (a.2.length+1) 8=true;simp[roomy];omega⟩) (.skip (.done rfl (h4 (by omega) _ ⟨by simp only[List.length_append,List.length_singleton];omega,fun i=>?_⟩))))) fun e=>.skip (.done rfl (h4 (by omega) _ ⟨by simp only[List.length_append,List.length_singleton];omega,fun i=>?_⟩)))))
 ·have hm:leaf∈s.Leaves:=by
   rw[hc,List.any_eq_true]at e;obtain⟨x,hx,hxe⟩:=e;rw[beq_iff_eq]at hxe;rw[← hxe];exact hx
  rw[List.mem_append,List.mem_singleton,p2];constructor
  ·rintro(⟨y,hy,hy2⟩ |rfl)
   ·exact⟨y,Bk.2 (.inl hy),hy2⟩
   ·exact⟨s,Bk.2 (.inr ⟨q1,rfl⟩),hm⟩
  ·rintro⟨y,hy,hy2⟩;rcases Bk.1 hy with h |⟨h,_⟩
   ·exact .inl ⟨y,h,hy2⟩
   ·exact .inr (h.trans q1.symm)
 ·have hm:leaf∉s.Leaves:=fun hx=>by
   rw[hc]at e;have:(s.Leaves.any fun x=>x==leaf)=true:=List.any_eq_true.2 ⟨leaf,hx,by simp⟩
   rw[this]at e;cases e
  rw[p2];constructor
  ·rintro⟨y,hy,hy2⟩;exact⟨y,Bk.2 (.inl hy),hy2⟩
  ·rintro⟨y,hy,hy2⟩;rcases Bk.1 hy with h |⟨_,h⟩
   ·exact⟨y,h,hy2⟩
   ·rw[← h]at hy2;exact absurd hy2 hm
theorem Ga{i:Int}(h0:0≤i)(h1:i<64):xH i=184483841+i:=by
 unfold xH;simp only[IntKind.wrap_u32];omega
theorem RG(ip:Int):cq ⟨ip,32⟩ ip=true:=by
 unfold cq fR xZ Mp;rw[BitVec.xor_self];simp[IntKind.wrap,IntKind.bits,IntKind.signed]
def zK(m ip v1 v2 nx:Int)(cs:List (V8 Int)):bZ:=(Go.L.bZ.mk (Go.L.ia.mk (2:Int) (1:Int) (@Go.AM.cF.mk Int (0:Int) (0:Int) (0:Int) (0:Int) (0:Int) (0:Int) (0:Int) (0:Int) (0:Int) (0:Int)) (0:Int) m ip true (Go.L.af.mk (0:Int) (0:Int)) (0:Int) v1 v2) (Go.L.L6.mk (0:Int) [] nx false (0:Int) false (0:Int) false (0:Int) [] cs (Go.L.xz.mk (0:Int) (0:Int) (0:Int) (0:Int))) (0:Int) false)
theorem HC(m ip v1 v2 nx:Int)(a b c:V8 Int):MR [zK m ip v1 v2 nx [a,b,c]]:=
 ⟨by show 1≤60;omega,fun r h=>by rw[List.mem_singleton.1 h];show 3≤20;omega,fun r h=>by rw[List.mem_singleton.1 h];show 0≤20;omega,fun r h=>by rw[List.mem_singleton.1 h];show 0≤20;omega⟩
def Sy(o:Option (List Int))(l:List Int):Bool:=match o with |some q=>q==l |none=>false
theorem Oj:((List.range 4).all fun i=>(List.range 3).all fun j=>(List.range 4).all fun m=>Sy (cS.S 5000 [oE (500+(i:Int)),oE (900+(j:Int)),rV (2199023255552+(m:Int))]) [500+(i:Int),900+(j:Int)])=true:=by kernel_rfl
theorem RH{a b c:Int}(ha:500≤a∧a<504)(hb:900≤b∧b<903)(hc:0≤c∧c<4):At (cS.S 5000 [oE a,oE b,rV (2199023255552+c)]) (fun(q:List Int)=>q=[a,b]):=by
 have h:=List.all_eq_true.1 (List.all_eq_true.1 (List.all_eq_true.1 Oj (a - 500).toNat (List.mem_range.2 (by omega))) (b - 900).toNat (List.mem_range.2 (by omega))) c.toNat (List.mem_range.2 (by omega))
 rw[show 500+(((a - 500).toNat:Nat):Int)=a by omega,show 900+(((b - 900).toNat:Nat):Int)=b by omega,show((c.toNat:Nat):Int)=c by omega]at h
 revert h
 generalize (cS.S 5000 [oE a,oE b,rV (2199023255552+c)]:Option (List Int))=o;intro h;cases o with
 |none=>cases h
 |some q=>exact⟨q,rfl,eq_of_beq (α:=List Int) h⟩
theorem PE(n:Nat)(hn5:n=5000)(hn:5000≤n)(HL:At (yf.S n ()) (fun(b:Bool)=>b=true))(nums:List Int)(self bd fr at_ m:Int):At (xL.S n (nums,self,bd,fr,at_,m)) (fun(b:Bool)=>b=true):=by
 refine(?_ :cD n (sr nums self bd fr at_ m) _);unfold sr;refine .skip (.call _ HL fun r5 h5=>.skip (.br (fun h=>by rw[h5]at h;cases h) fun _=>.skip (.op () rfl (.skip (.br (fun _=>.skip (.done rfl rfl)) fun _=>?_)))))
 refine .skip (.call Vf (JO nums hn) fun(f:av) hv=>?_)
 have hl:=hv.leaves;have hb:=hv.jB;have htn:=hv.iQ;refine .skip (.call _ (DP n self f.Leaves (by omega) (by omega)) fun(lf:Int) hlf=>.skip (.op () rfl (.call _ (DP n bd _ (by omega) (by omega)) fun(d:Int) hd=>.skip (.call _ (DP n fr f.Leaves (by omega) (by omega)) fun(fm:Int) hfm=>?_))))
 obtain⟨l0,l1⟩:=hlf;obtain⟨d0,d1⟩:=hd;obtain⟨f0,f1⟩:=hfm;obtain⟨i,rfl⟩:∃i:Nat,d=(i:Int):=⟨d.toNat,by omega⟩
 have hi:i<f.aG.length:=by omega
 have hB:f.aG[i]? =some (f.aG[i]):=List.getElem?_eq_getElem hi;generalize f.aG[i]=b at hB;have hB2:fN f.aG (i:Int)=some b:=by rw[bq];exact hB
 obtain⟨t0,t1,v1,g1,sub⟩:=hv.bd i b hB;refine .skip (.op b hB2 (.skip (.br (fun _=>.skip (.done rfl rfl)) fun hg=>?_)))
 rw[beq_eq_false_iff_ne]at hg;rcases sub with⟨_,hg0⟩ |⟨hsub,_⟩
 ·exact absurd hg0 hg
 have hlen:b.ay.Len=24:=by rw[hsub]
 have hbip:b.ay.IP=167772160+(i:Int)*65536:=by rw[hsub]
 have e24:IntKind.wrap .i64 ((32:Int) - b.ay.Len)=8:=by rw[hlen];decide
 have e256:IntKind.wrap .i64 ((1:Int)*((2:Int) ^ (@Min.min Nat instMinNat (Int.toNat (IntKind.wrap .i64 ((32:Int) - b.ay.Len))) (IntKind.bits .i64))))=256:=by rw[e24];decide
 refine .skip (.op () (if_pos (by rw[e24];decide)) (.call _ (DP n at_ _ (by rw[e256];omega) (by rw[e256];omega)) fun(a:Int) ha=>?_))
 rw[e256]at ha;obtain⟨a0,a1⟩:=ha;have eip:IntKind.wrap .u32 (b.ay.IP+(IntKind.wrap .u32 a))=b.ay.IP+a:=by
  simp only[IntKind.wrap_u32];omega
 have erx:IntKind.wrap .u64 ((2199023255552:Int)+(IntKind.wrap .u64 fm))=2199023255552+fm:=by
  simp only[IntKind.wrap_u64];omega
 rw[eip,erx];have hvb:=QB hv;obtain⟨j,hj⟩:∃j:Nat,b.au=(j:Int):=⟨b.au.toNat,by omega⟩
 have hjl:j<f.aA.length:=by omega
 have hT:f.aA[j]? =some (f.aA[j]):=List.getElem?_eq_getElem hjl;generalize f.aA[j]=y at hT;have hT2:fN f.aA b.au=some y:=by rw[hj,bq];exact hT
 have hy:y=⟨100+(j:Int),900+(j:Int)⟩:=hv.Af j y hT;have hyt:y.Target=900+(j:Int):=by rw[hy]
 refine .skip (.call (fun(r:Int)=>r=xH fm) (Od n hn (iy f) hvb fm f0 f1) fun(nx:Int) hnx=>.skip (.call _ (ND n _ (by omega)) fun(rr:V8 Int×Int) hrr=>.skip (.op y hT2 (.skip (.call _ (Ho n _) fun(c1:V8 Int) hc1=>.skip (.op y hT2 (.skip (.call _ (Ho n _) fun(c2:V8 Int) hc2=>?_))))))))
 subst hnx hc1 hc2;rw[hrr];refine .skip (.tidy rfl (.skip (.call _ (Sx n hn (iy f) hvb lf) fun(L:List Int) hL=>?_)))
 obtain⟨L1,L2⟩:=hL;have hcr:((iW (iy f) lf)[i]? =some true)↔∃s∈L,∃q,fN f.ax s=some q∧(i:Int)∈q.aG:=by
  unfold iW;rw[List.getElem?_map,List.getElem?_range (show i<(iy f).aG.length from hi)];simp only[Option.map_some,Option.some.injEq,decide_eq_true_eq];rw[List.mem_flatMap];constructor
  ·rintro⟨q,hq,hq2⟩;unfold wK at hq2;split at hq2
   ·rename_i hc;simp only[decide_eq_true_eq]at hc;obtain⟨s,hs,rfl⟩:=List.getElem_of_mem hq;have e:fN f.ax (s:Int)=some (f.ax[s]):=by rw[bq];exact List.getElem?_eq_getElem hs
    exact⟨(s:Int),(L2 _).2 ⟨_,e,hc⟩,_,e,hq2⟩
   ·cases hq2
  ·rintro⟨s,hs,q,hq,hq2⟩;obtain⟨q',hq',hq3⟩:=(L2 s).1 hs;have:q'=q:=Option.some.inj (hq'.symm.trans hq);subst this;obtain⟨_,_,hm⟩:0≤s∧s<(f.ax.length:Int)∧q'∈f.ax:=by
    unfold fN at hq;split at hq
    ·rename_i h0;obtain⟨h1,h2⟩:=List.getElem?_eq_some_iff.1 hq;exact⟨by simpa using h0,by omega,by rw[← h2];exact List.getElem_mem _⟩
    ·cases hq
   exact⟨q',hm,by unfold wK;rw[if_pos (decide_eq_true hq3)];exact hq2⟩
 refine .skip (.loop (fun a:Bool×Int=>dW L (fun pre (c:Bool)=>c=true↔∃s∈pre,∃q,fN f.ax s=some q∧(i:Int)∈q.aG) (a.2,a.1)) (fun a=>L.length - a.2.toNat) (fun(c:Bool)=>c=true↔(iW (iy f) lf)[i]? =some true) rfl (dW.start ⟨fun h=>(by cases h),fun⟨s,h,_⟩=>(by cases h)⟩) (by simp;omega) (fun a ha=>?_) (fun t ht=>?_))
 ·refine .skip (.op () rfl (.skip (.br (fun g=>?_) fun g=>.skip (.done rfl ((ha.fin g).trans hcr.symm)))))
  obtain⟨s,pre,h1,h2,h3,_,h4⟩:=ha.get g;refine .skip (.br (fun hc=>.skip (.done rfl (h4 (by omega) true ⟨fun _=>?_,fun _=>rfl⟩))) fun hc=>?_)
  ·obtain⟨s',hs',q,hq⟩:=h3.1 hc;exact⟨s',List.mem_append_left _ hs',q,hq⟩
  ·obtain⟨q,hq,hq2⟩:=(L2 s).1 h2;have hqm:q∈f.ax:=by
    unfold fN at hq;split at hq
    ·obtain⟨h1,h2⟩:=List.getElem?_eq_some_iff.1 hq;rw[← h2];exact List.getElem_mem _
    ·cases hq
   obtain⟨_,b1,b2,b3,b4⟩:=hv.seg q hqm;refine .skip (.op s h1 (.skip (.op q hq (.skip (.call (fun(c:Bool)=>c=decide ((i:Int)∈q.aG)) (QO n q.aG (i:Int) (by omega) (by omega)) fun(c:Bool) hcc=>.skip (.done rfl (h4 (by omega) c ?_)))))))
   rw[hcc,decide_eq_true_eq];constructor
   ·exact fun h=>⟨s,List.mem_append_right _ List.mem_cons_self,q,hq,h⟩
   ·rintro⟨s',hs',q',hq',hm⟩;rcases List.mem_append.1 hs' with hs' |hs'
    ·have e2:a.1=true:=h3.2 ⟨s',hs',q',hq',hm⟩;rw[e2]at hc;cases hc
    ·simp only[List.mem_singleton]at hs';subst hs';have:q'=q:=Option.some.inj (hq'.symm.trans hq);subst this;exact hm
 have htg:At (cS.S n [oE b.Target,oE y.Target,rV (2199023255552+fm)]) (fun(q:List Int)=>q=[b.Target,y.Target]):=by
  subst hn5;exact RH (by omega) (by omega) (by omega)
 have htgs:MG n [zK m (b.ay.IP+a) b.aZ y.aZ (xH fm) [oE b.Target,oE y.Target,rV (2199023255552+fm)]]:=fun r h=>by
  rw[List.mem_singleton.1 h];exact htg.mono fun q hq=>by rw[hq];show 2≤20;omega
 have hop:At (k7.S n (iy f,lf,[],[zK m (b.ay.IP+a) b.aZ y.aZ (xH fm) [oE b.Target,oE y.Target,rV (2199023255552+fm)]])) (fun(r:List az)=>r=yC n (iy f) lf [] [zK m (b.ay.IP+a) b.aZ y.aZ (xH fm) [oE b.Target,oE y.Target,rV (2199023255552+fm)]]):=
  HA n hn (iy f) hvb lf [] _ (HC _ _ _ _ _ _ _ _) htgs
 have Mk:At (k7.S n (iy f,lf,[],[])) (fun(r:List az)=>r=yC n (iy f) lf [] []):=HA n hn (iy f) hvb lf [] [] ⟨by decide,fun _ h=>(by cases h),fun _ h=>(by cases h),fun _ h=>(by cases h)⟩ (fun _ h=>(by cases h))
 have hlen1:=F4 n (iy f) hvb lf [] _ (HC m (b.ay.IP+a) b.aZ y.aZ (xH fm) (oE b.Target) (oE y.Target) (rV (2199023255552+fm))) htgs;have hlen0:=F4 n (iy f) hvb lf [] [] ⟨by decide,fun _ h=>(by cases h),fun _ h=>(by cases h),fun _ h=>(by cases h)⟩ (fun _ h=>(by cases h))
 have hA1:yC n (iy f) lf [] [zK m (b.ay.IP+a) b.aZ y.aZ (xH fm) [oE b.Target,oE y.Target,rV (2199023255552+fm)]]=ny (iy f) lf [] [zK m (b.ay.IP+a) b.aZ y.aZ (xH fm) [oE b.Target,oE y.Target,rV (2199023255552+fm)]] (Kc n (iy f) lf):=if_pos ⟨l0,l1⟩;have hA0:yC n (iy f) lf [] []=ny (iy f) lf [] [] (Kc n (iy f) lf):=if_pos ⟨l0,l1⟩;rw[hA1]at hop hlen1;rw[hA0]at Mk hlen0;have hHR:P6 (Kc n (iy f) lf) b y (b.ay.IP+a) m (xH fm) (2199023255552+fm) (zK m (b.ay.IP+a) b.aZ y.aZ (xH fm) [oE b.Target,oE y.Target,rV (2199023255552+fm)]):=by
  refine⟨rfl,?_,rfl,rfl,rfl,rfl,?_⟩
  ·obtain⟨q,e1,e2⟩:=htg;show(cS.S n [oE b.Target,oE y.Target,rV (2199023255552+fm)]).getD ([]:List Int)=_;rw[e1,e2];rfl
  ·refine(SM n hn (iy f) lf _ (by show 3≤20;omega)).trans ?_
   exact Qq (by omega) (by omega)
 have hcon:(Kc n (iy f) lf).dH b.ay (b.ay.IP+a)=true:=by
  rw[Sr,JV hvb (i:=i) (j:=i) hB hB hg hg a0 a1];exact decide_eq_true rfl
 refine .skip (.cB _ (RF hop) fun(H1:List az) hH1=>?_)
 subst hH1;refine .skip (.call _ (JW n _ b.au (b.ay.IP+a) (by omega) (by omega)) fun(q1:az×Bool) hq1=>.skip (.cR _ Mk fun(H0:List az) hH0=>?_))
 subst hH0;refine .skip (.call _ (JW n _ b.au (b.ay.IP+a) (by omega) (by omega)) fun(q0:az×Bool) hq0=>?_)
 have E1:=MP hvb rfl hB hg a0 a1 hT hj hHR hcon (RG _) hq1;have E0:=MO hvb rfl hB hg a0 a1 hq0;rw[SK n hn (iy f) hvb lf l0 l1,Ga f0 (by omega),Ga l0 (by omega)]at E1
 have ct:t=true↔(iW (iy f) lf)[i]? =some true:=ht;by_cases hc:(iW (iy f) lf)[i]? =some true
 ·rw[if_pos hc]at E0;have et:t=true:=ct.2 hc;subst et E0;by_cases e:fm=lf
  ·rw[if_pos ⟨hc,.inl (by rw[e])⟩]at E1
   subst E1;refine .skip (.br (fun h=>by simp at h) fun _=>.skip (.br (fun _=>.skip (.br (fun h=>by simp[qn]at h) fun _=>.skip (.br (fun h=>by simp[qn]at h) fun _=>.skip (.br (fun h=>by simp[qn]at h) fun _=>.skip (.br (fun _=>.skip (.br (fun _=>.skip (.br (fun _=>.skip (.done rfl ?_)) fun h=>by cases h)) fun h=>?_)) fun h=>by cases h))))) fun h=>by cases h))
   ·simp
   ·rw[e]at h;simp at h
  ·have eb:(fm==lf)=false:=by simpa using e
   by_cases ro:f.bD=1
   ·rw[if_pos ⟨hc,.inr ro⟩]at E1;subst E1;refine .skip (.br (fun h=>by simp at h) fun _=>.skip (.br (fun _=>.skip (.br (fun h=>by simp[qn]at h) fun _=>.skip (.br (fun h=>by simp[qn]at h) fun _=>.skip (.br (fun h=>by simp[qn]at h) fun _=>.skip (.br (fun _=>.skip (.br (fun h=>by rw[eb]at h;cases h) fun _=>.skip (.br (fun _=>.skip (.br (fun _=>.skip (.done rfl ?_)) fun h=>by cases h)) fun h=>?_))) fun h=>by cases h))))) fun h=>by cases h))
    ·simp
    ·rw[ro]at h;simp at h
   ·rw[if_neg (fun h=>by rcases h.2 with h |h;exact e (by omega);exact ro h),if_neg (fun h=>e (by omega))]at E1
    subst E1;refine .skip (.br (fun h=>by simp at h) fun _=>.skip (.br (fun _=>.skip (.br (fun h=>by simp[qn]at h) fun _=>.skip (.br (fun h=>by simp[qn]at h) fun _=>.skip (.br (fun h=>by simp[qn]at h) fun _=>.skip (.br (fun _=>.skip (.br (fun h=>by rw[eb]at h;cases h) fun _=>.skip (.br (fun h=>?_) fun h=>.skip (.br (fun h=>by rw[eb]at h;cases h) fun _=>.skip (.br (fun _=>.skip (.op y hT2 (.skip (.done rfl ?_)))) fun h=>by cases h))))) fun h=>by cases h))))) fun h=>by cases h))
    ·rw[beq_iff_eq]at h;exact absurd h ro
    ·simp[Ga f0 (show fm<64 by omega)]
 ·rw[if_neg hc]at E0;have et:t=false:=by
   cases t with
   |false=>rfl
   |true=>exact absurd (ct.1 rfl) hc
  subst et E0;by_cases e:fm=lf
  ·rw[if_neg (fun h=>hc h.1),if_pos (by rw[e]),if_neg hc]at E1
   subst E1;refine .skip (.br (fun h=>by simp at h) fun _=>.skip (.br (fun h=>by cases h) fun _=>.skip (.br (fun h=>by cases h) fun _=>.skip (.br (fun _=>.skip (.br (fun _=>.skip (.done rfl ?_)) fun h=>by simp at h)) fun h=>?_))))
   ·simp
   ·rw[e]at h;simp at h
  ·have eb:(fm==lf)=false:=by simpa using e
   rw[if_neg (fun h=>hc h.1),if_neg (fun h=>e (by omega))]at E1
   subst E1;refine .skip (.br (fun h=>by simp at h) fun _=>.skip (.br (fun h=>by cases h) fun _=>.skip (.br (fun h=>by cases h) fun _=>.skip (.br (fun h=>by rw[eb]at h;cases h) fun _=>.skip (.br (fun _=>.skip (.op y hT2 (.skip (.done rfl ?_)))) fun h=>by cases h)))))
   simp[Ga f0 (show fm<64 by omega)]
end Go.L
end
