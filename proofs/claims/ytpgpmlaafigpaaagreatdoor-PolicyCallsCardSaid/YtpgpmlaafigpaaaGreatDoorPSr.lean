/- Parts of the library's sort of numbers, continued: choosePivot, breakPatterns. No conditions. -/
import Derived.Test.YtpgpmlaafigpaaaGreatDoorPSq
import Derived.Sort.LotD4
import Derived.Sort.LotD5
import Derived.Sort.Walk13a
namespace Go.L
open Go.AM Go.Sort
set_option maxRecDepth 100000
set_option linter.unusedSimpArgs false
set_option linter.unusedVariables false
theorem Vi(d:Array Int){i:Nat}(h:i<d.size):gi d.toList (i:Int)=some d[i]! :=by rw[bQ,bN d h]
theorem GA{N:Nat}(d:Array Int)(a b s:Nat)(ha:a<d.size)(hb:b<d.size)(hs:s<1000){β:Type}(k:eo.sh.El→Option β):
 (eo.S N ((s:Int),d.toList,(a:Int),(b:Int))).bind k=k (((order2 ltInt d a b s).1:Int),((order2 ltInt d a b s).2.1:Int),((order2 ltInt d a b s).2.2:Int)):=by
 have:eo.S N ((s:Int),d.toList,(a:Int),(b:Int))=some (((order2 ltInt d a b s).1:Int),((order2 ltInt d a b s).2.1:Int),((order2 ltInt d a b s).2.2:Int)):=by
  show(kR (s:Int) d.toList (a:Int) (b:Int)).run N=_;simp only[kR,G.run,aI,if_true,cn,Vi d ha,Vi d hb,Option.bind_some,vZ,bG (x:=(s:Int)+1) (n:=s+1) (by omega) (by omega)]
  unfold order2;cases ltInt d[b]! d[a]! <;>simp<;>rfl
 rw[this];rfl
theorem sG(d:Array Int)(a b s:Nat):((order2 ltInt d a b s).1=a∧(order2 ltInt d a b s).2.1=b)∨((order2 ltInt d a b s).1=b∧(order2 ltInt d a b s).2.1=a):=by
 unfold order2;split<;>simp
theorem Px{N:Nat}(d:Array Int)(a b c s:Nat)(ha:a<d.size)(hb:b<d.size)(hc:c<d.size)(hs:s<900):
 ep.S N ((s:Int),d.toList,(a:Int),(b:Int),(c:Int))=some (((median ltInt d a b c s).1:Int),((median ltInt d a b c s).2:Int)):=by
 show(kS (s:Int) d.toList (a:Int) (b:Int) (c:Int)).run N=_;simp only[kS,G.run,aI,if_true];unfold median;rw[GA d a b s ha hb (by omega)]
 have c1:=order2_count ltInt d a b s;have r1:=sG d a b s;generalize order2 ltInt d a b s=o1 at*;simp only
 rw[GA d o1.2.1 c o1.2.2 (by omega) hc (by omega)]
 have c2:=order2_count ltInt d o1.2.1 c o1.2.2;have r2:=sG d o1.2.1 c o1.2.2;generalize order2 ltInt d o1.2.1 c o1.2.2=o2 at*;simp only
 rw[GA d o1.1 o2.1 o2.2.2 (by omega) (by omega) (by omega)]
 rfl
theorem GC{N:Nat}(d:Array Int)(a b c s:Nat)(ha:a<d.size)(hb:b<d.size)(hc:c<d.size)(hs:s<900){β:Type}(k:ep.sh.El→Option β):
 (ep.S N ((s:Int),d.toList,(a:Int),(b:Int),(c:Int))).bind k=k (((median ltInt d a b c s).1:Int),((median ltInt d a b c s).2:Int)):=by
 rw[Px d a b c s ha hb hc hs];rfl
theorem Ap(d:Array Int)(a b c s:Nat):(median ltInt d a b c s).1=a∨(median ltInt d a b c s).1=b∨(median ltInt d a b c s).1=c:=by
 unfold median;simp only
 have r1:=sG d a b s;generalize order2 ltInt d a b s=o1 at*;have r2:=sG d o1.2.1 c o1.2.2;generalize order2 ltInt d o1.2.1 c o1.2.2=o2 at*;have r3:=sG d o1.1 o2.1 o2.2.2;generalize order2 ltInt d o1.1 o2.1 o2.2.2=o3 at*;omega
theorem BZ{N:Nat}(d:Array Int)(a s:Nat)(ha:a+1<d.size)(h1:1≤a)(hs:s<900)(hz:d.size<1000000000000){β:Type}(k:de.sh.El→Option β):
 (de.S N ((s:Int),d.toList,(a:Int))).bind k=k (((medianAdjacent ltInt d a s).1:Int),((medianAdjacent ltInt d a s).2:Int)):=by
 have:de.S N ((s:Int),d.toList,(a:Int))=some (((medianAdjacent ltInt d a s).1:Int),((medianAdjacent ltInt d a s).2:Int)):=by
  show(iD (s:Int) d.toList (a:Int)).run N=_;simp only[iD,G.run,aI,if_true,bG (x:=(a:Int) - 1) (n:=a - 1) (by omega) (by omega),bG (x:=(a:Int)+1) (n:=a+1) (by omega) (by omega)]
  rw[GC d (a - 1) a (a+1) s (by omega) (by omega) (by omega) hs]
  rfl
 rw[this];rfl
theorem Vj(s:Nat):(if((s:Int)==0)=true then(1:Int)else if((s:Int)==12)=true then 2 else 0)=hintCode (hintOf s):=by
 unfold hintOf;by_cases h0:s=0
 ·subst h0;rfl
 ·by_cases h12:s=12
  ·subst h12;rfl
  ·rw[if_neg (by simp;omega),if_neg (by simp;omega),if_neg h0,if_neg h12];rfl
theorem Rk{β:Type}(s:Nat)(x:Int)(F:Int×Int→β):(if((s:Int)==0)=true then F (x,(1:Int))else if((s:Int)==12)=true then F (x,2)else F (x,0))=F (x,hintCode (hintOf s)):=by
 rw[← Vj];split
 ·rfl
 ·split<;>rfl
theorem HF(N:Nat)(d:Array Int)(a b:Nat)(hb:b≤d.size)(hab:a<b)(hs:d.size<1000000000000):
 i6.S N (d.toList,(a:Int),(b:Int))=some (((choosePivot ltInt d a b).1:Int),hintCode (choosePivot ltInt d a b).2):=by
 show(iZ d.toList (a:Int) (b:Int)).run N=_;have q4:(b - a) / 4≤b - a:=Nat.div_le_self _ _;have t4:((b - a:Nat):Int).tdiv 4=(((b - a) / 4:Nat):Int):=rfl;simp only[iZ,G.run,aI,if_true,bG (x:=(b:Int) - (a:Int)) (n:=b - a) (by omega) (by omega),t4]
 simp only[bG (x:=(((b - a) / 4:Nat):Int)) (n:=(b - a) / 4) rfl (by omega)]
 simp only[bG (x:=(((b - a) / 4:Nat):Int)*1) (n:=(b - a) / 4*1) (by omega) (by omega),bG (x:=(((b - a) / 4:Nat):Int)*2) (n:=(b - a) / 4*2) (by omega) (by omega),bG (x:=(((b - a) / 4:Nat):Int)*3) (n:=(b - a) / 4*3) (by omega) (by omega)]
 simp only[bG (x:=(a:Int)+((((b - a) / 4*1):Nat):Int)) (n:=a+(b - a) / 4*1) (by omega) (by omega),bG (x:=(a:Int)+((((b - a) / 4*2):Nat):Int)) (n:=a+(b - a) / 4*2) (by omega) (by omega),bG (x:=(a:Int)+((((b - a) / 4*3):Nat):Int)) (n:=a+(b - a) / 4*3) (by omega) (by omega)]
 rw[choosePivot_eq];unfold rawPivot;by_cases h8:b - a≥8
 ·rw[if_pos (by simp;omega),if_pos h8]
  by_cases h50:b - a≥50
  ·rw[if_pos (by simp;omega),if_pos h50]
   rw[show(0:Int)=((0:Nat):Int)from rfl,BZ d (a+(b - a) / 4*1) 0 (by omega) (by omega) (by omega) hs]
   have k1:=medianAdjacent_count ltInt d (a+(b - a) / 4*1) 0;have r1:=Ap d (a+(b - a) / 4*1 - 1) (a+(b - a) / 4*1) (a+(b - a) / 4*1+1) 0;rw[show median ltInt d (a+(b - a) / 4*1 - 1) (a+(b - a) / 4*1) (a+(b - a) / 4*1+1) 0=medianAdjacent ltInt d (a+(b - a) / 4*1) 0 from rfl]at r1;generalize medianAdjacent ltInt d (a+(b - a) / 4*1) 0=m1 at*;simp only
   rw[BZ d (a+(b - a) / 4*2) m1.2 (by omega) (by omega) (by omega) hs]
   have k2:=medianAdjacent_count ltInt d (a+(b - a) / 4*2) m1.2;have r2:=Ap d (a+(b - a) / 4*2 - 1) (a+(b - a) / 4*2) (a+(b - a) / 4*2+1) m1.2;rw[show median ltInt d (a+(b - a) / 4*2 - 1) (a+(b - a) / 4*2) (a+(b - a) / 4*2+1) m1.2=medianAdjacent ltInt d (a+(b - a) / 4*2) m1.2 from rfl]at r2;generalize medianAdjacent ltInt d (a+(b - a) / 4*2) m1.2=m2 at*;simp only
   rw[BZ d (a+(b - a) / 4*3) m2.2 (by omega) (by omega) (by omega) hs]
   have k3:=medianAdjacent_count ltInt d (a+(b - a) / 4*3) m2.2;have r3:=Ap d (a+(b - a) / 4*3 - 1) (a+(b - a) / 4*3) (a+(b - a) / 4*3+1) m2.2;rw[show median ltInt d (a+(b - a) / 4*3 - 1) (a+(b - a) / 4*3) (a+(b - a) / 4*3+1) m2.2=medianAdjacent ltInt d (a+(b - a) / 4*3) m2.2 from rfl]at r3;generalize medianAdjacent ltInt d (a+(b - a) / 4*3) m2.2=m3 at*;simp only
   rw[GC d m1.1 m2.1 m3.1 m3.2 (by omega) (by omega) (by omega) (by omega)]
   exact Rk _ _ some
  ·rw[if_neg (by simp;omega),if_neg h50]
   rw[show(0:Int)=((0:Nat):Int)from rfl,GC d _ _ _ 0 (by omega) (by omega) (by omega) (by omega)]
   exact Rk _ _ some
 ·rw[if_neg (by simp;omega),if_neg h8]
  rfl
end Go.L
