/- What policy.Imports looks at answers. No conditions. -/
import Derived.Test.YtpgpmlaafigpaaaGreatDoorWIm1
import Derived.Test.YtpgpmlaafigpaaaGreatDoorPAn
namespace Go.L
open Go.AM
set_option maxRecDepth 100000
set_option linter.unusedVariables false
def fD(p:Prefix):Bool:=decide (0≤p.Len)&&decide (p.Len≤32)
theorem EI(N:Nat)(p:Prefix):cr N (fun n=>iK.S n p) fun(b:Bool)=>b=true→0≤p.Len∧p.Len≤32:=by
 refine(?_ :bk N (nL p) _);unfold nL;refine .skip (.br (fun h=>.skip (.done rfl ?_)) fun h=>.skip (.done rfl ?_))
 ·intro h2;simp only[ge_iff_le,decide_eq_true_eq]at h h2;exact⟨h,h2⟩
 ·intro h2;cases h2
theorem S7(N:Nat)(x:Int)(h0:0≤x)(h1:x≤32):cr N (fun n=>lQ.S n x) fun(_:Int)=>True:=by
 refine(?_ :bk N (o7 x) _);unfold o7;refine .skip (.op () ?_ (.skip (.done rfl trivial)));have:Go.IntKind.wrap .i64 (32 - x)=32 - x:=wrap_i64 (by omega) (by omega)
 rw[this];show(if decide (0≤32 - x)=true then some ()else none)=_
 rw[if_pos (by simp;omega)]
theorem LM(N:Nat)(p:Prefix)(ip:Int):cr N (fun n=>fN.S n (p,ip)) fun(_:Bool)=>True:=by
 refine(?_ :bk N (kC p ip) _);unfold kC;refine .skip (.call _ (EI N p) fun b hb=>.skip (.br (fun h=>?_) fun h=>.skip (.done rfl trivial)))
 obtain⟨h0,h1⟩:=hb h;exact .skip (.call _ (S7 N p.Len h0 h1) fun _ _=>.skip (.done rfl trivial))
theorem Pv(N:Nat)(p q:Prefix):cr N (fun n=>jC.S n (p,q)) fun(_:Bool)=>True:=by
 refine(?_ :bk N (qV p q) _);unfold qV;refine .skip (.call _ (EI N p) fun b hb=>.skip (.br (fun h=>.skip (.call _ (EI N q) fun c hc=>.skip (.br (fun h2=>.skip (.br (fun h3=>.skip (.call _ (LM N p q.IP) fun _ _=>.skip (.done rfl trivial))) fun h3=>.skip (.done rfl trivial))) fun h2=>.skip (.done rfl trivial)))) fun h=>.skip (.done rfl trivial)))
theorem LN{X:Type}(l:List X)(enc:X→List AVal)(n:Nat)(i:Int)(h0:0≤i)(h1:i<(l.length:Int)):∃x,(aV l enc n i).run=some x:=by
 have h2:i.toNat<l.length:=by omega
 refine⟨l[i.toNat],?_⟩;show gi l i=_;simp[gi,h0,h2]
theorem NY(N:Nat)(x:Int):cr N (fun n=>dS.S n x) fun(_:Bool)=>True:=by
 refine(?_ :bk N (l9 x) _);unfold l9
 (repeat' first |exact bk.done rfl trivial |refine bk.skip ?_ |refine bk.inl ?_ |refine bk.br (fun _=>?_) (fun _=>?_))
theorem LO(N:Nat)(x:Int):cr N (fun n=>mE.S n x) fun(_:Bool)=>True:=by
 refine(?_ :bk N (qb x) _);unfold qb
 (repeat' first |exact bk.done rfl trivial |refine bk.skip ?_ |refine bk.inl ?_ |refine bk.br (fun _=>?_) (fun _=>?_))
theorem S8(N:Nat)(x y:Int):cr N (fun n=>aQ.S n (x,y)) fun(_:Bool)=>True:=by
 refine(?_ :bk N (nh x y) _);unfold nh;refine .skip (.call _ (NY N x) fun b _=>.skip (.br (fun _=>.skip (.call _ (NY N y) fun c _=>?_)) fun _=>?_))<;>(repeat' first |exact bk.done rfl trivial |refine bk.skip ?_ |refine bk.inl ?_ |refine bk.br (fun _=>?_) (fun _=>?_))
theorem Ri(i j:Int)(h0:0≤i)(h1:0≤j)(h2:i+j<9223372036854775808):Go.IntKind.wrap .i64 (Int.fdiv (Go.IntKind.wrap .u64 (Go.IntKind.wrap .i64 (i+j))) ((2:Int) ^ (@Min.min Nat instMinNat (Int.toNat (1:Int)) (Go.IntKind.bits .u64))))=(i+j) / 2:=by
 have e1:Go.IntKind.wrap .i64 (i+j)=i+j:=wrap_i64 (by omega) (by omega)
 have e2:Go.IntKind.wrap .u64 (i+j)=i+j:=by
  simp only[Go.IntKind.wrap,Go.IntKind.bits,Go.IntKind.signed];simp
  omega
 have e3:((2:Int) ^ (@Min.min Nat instMinNat (Int.toNat (1:Int)) (Go.IntKind.bits .u64)))=2:=by decide
 rw[e1,e2,e3,Int.fdiv_eq_ediv_of_nonneg _ (by omega)]
 exact wrap_i64 (by omega) (by omega)
theorem M9(N:Nat)(l:List Int)(x:Int)(hl:l.length<1000000)(hN:l.length<N):cr N (fun n=>iS.S n (l,x)) fun(_:Prod Int Bool)=>True:=by
 refine(?_ :bk N (dX l x) _);unfold dX;refine .skip (.op () rfl (.skip (.loop (fun(a:Int×Int)=>0≤a.1∧a.1≤a.2∧a.2≤(l.length:Int)) (fun a=>(a.2 - a.1).toNat) (fun(t:Int)=>0≤t∧t≤(l.length:Int)) rfl ⟨by simp,by simp,by simp⟩ ?_ ?_ ?_)))
 ·simp;omega
 ·rintro⟨i,j⟩ ⟨h0,h1,h2⟩;simp only at h0 h1 h2 ⊢;refine .skip (.br (fun h=>.skip ?_) fun h=>.skip (.done rfl ?_))
  ·simp only[decide_eq_true_eq]at h;rw[Ri i j h0 (by omega) (by omega)]
   obtain⟨y,hy⟩:=LN l (eI .u32) 1 ((i+j) / 2) (by omega) (by omega)
   refine .op y hy (.skip (.call _ (S8 N y x) fun b _=>.br (fun _=>.skip (.done rfl ?_)) fun _=>.skip (.done rfl ?_)))
   ·rw[wrap_i64 (by omega) (by omega)]
    refine⟨⟨?_,?_,?_⟩,?_⟩<;>simp only<;>omega
   ·refine⟨⟨?_,?_,?_⟩,?_⟩<;>simp only<;>omega
  ·exact⟨h0,by omega⟩
 ·rintro t ⟨h0,h1⟩;refine .skip (.br (fun h=>.skip ?_) fun h=>?_)
  ·simp only[decide_eq_true_eq]at h;obtain⟨y,hy⟩:=LN l (eI .u32) 1 t h0 h;refine .op y hy (.skip (.br (fun _=>?_) fun _=>.skip (.op y hy (.skip (.call _ (LO N y) fun b _=>.skip (.br (fun _=>.skip (.call _ (LO N x) fun c _=>?_)) fun _=>?_))))))<;>(repeat' first |exact bk.done rfl trivial |refine bk.skip ?_ |refine bk.inl ?_ |refine bk.br (fun _=>?_) (fun _=>?_))
  ·(repeat' first |exact bk.done rfl trivial |refine bk.skip ?_ |refine bk.inl ?_ |refine bk.br (fun _=>?_) (fun _=>?_))
theorem UA(N:Nat)(l:List Int)(x:Int)(hl:l.length<1000000)(hN:l.length<N):cr N (fun n=>nM.S n (l,x)) fun(_:Bool)=>True:=by
 refine(?_ :bk N (sv l x) _);unfold sv;exact .skip (.call _ (M9 N l x hl hN) fun r _=>.skip (.done rfl trivial))
end Go.L
