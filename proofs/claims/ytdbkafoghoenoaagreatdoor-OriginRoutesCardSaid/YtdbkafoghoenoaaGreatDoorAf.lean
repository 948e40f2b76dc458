/- A variable of our own whose last cell is a slice of our own, by its content. No program. -/
import Derived.Test.YtdbkafoghoenoaaGreatDoorAc
namespace Go.AM
theorem mapRd_done{n:Nat}:∀(l:List AVal),AVal.pureL l=true→mapRd (snap (n+1)) l=.done l
 | [],_=>rfl
 |a::l,h=>by
  simp only[AVal.pureL,Bool.and_eq_true]at h;have h1:snap (n+1) a=.done a:=by unfold snap;rw[if_pos h.1]
  simp only[mapRd,h1,Rd.bind,mapRd_done l h.2]
theorem mapRd_app{f:AVal→Rd AVal}:∀(l m:List AVal) (l':List AVal),mapRd f l=.done l'→mapRd f (l++m)=(mapRd f m).bind fun x=>.done (l'++x)
 | [],m,l',h=>by
  simp only[mapRd,Rd.done.injEq]at h;subst h;simp only[List.nil_append];generalize mapRd f m=r;induction r with
  |fail=>rfl
  |done a=>rfl
  |get b k ih=>simp only[Rd.bind];congr;funext x;exact ih x
 |a::l,m,l',h=>by
  simp only[mapRd]at h;cases ha:f a with
  |fail=>rw[ha]at h;cases h
  |get b k=>rw[ha]at h;cases h
  |done x=>
   rw[ha]at h;simp only[Rd.bind]at h;cases hl:mapRd f l with
   |fail=>rw[hl]at h;cases h
   |get b k=>rw[hl]at h;cases h
   |done xs=>
    rw[hl]at h;simp only[Rd.bind,Rd.done.injEq]at h;subst h;simp only[List.cons_append,mapRd,ha,Rd.bind,mapRd_app l m xs hl];generalize mapRd f m=r;induction r with
    |fail=>rfl
    |done a=>rfl
    |get b k ih=>simp only[Rd.bind];congr;funext x;exact ih x
def SN.obj{X:Type}(b sz:Nat)(pre:List AVal)(b2 v2 sz2:Nat)(l:List X)(enc:X→List AVal)(rest:List AVal)(hp:AVal.pureL pre=true)(hr:AVal.pureL rest=true)(he:∀x,AVal.pureL (enc x)=true):SN where
 bs:=[(b,.row 0 sz [pre++[.sl b2 v2 sz2 0 l.length]]),(b2,.row v2 sz2 (l.map enc))]
 ain:=.ptr b 0 0 0::rest
 aout:=.cptr (pre++[.lst (l.map enc)]) 0::rest
 rs:=[b,b2]
 pf:=fun H hk=>by
  obtain⟨h1,h2,-⟩:=hk;have hall:=pureRow l enc he;have e1:∀y,mapRd (snap 8) (pre++[y])=((snap 8 y).bind fun z=>.done [z]).bind fun x=>.done (pre++x):=fun y=>by
   rw[show(8:Nat)=7+1 from rfl,mapRd_app _ _ _ (mapRd_done (n:=7) pre hp)];simp only[mapRd,Rd.bind]
  have e2:=mapRd_done (n:=8) rest hr;have e3:mapRd (snap snapFuel) (.ptr b 0 0 0::rest)=(snap 9 (.ptr b 0 0 0)).bind fun x=>.done (x::rest):=by
   rw[show snapFuel=8+1 from rfl];simp only[mapRd,e2,Rd.bind]
  rw[e3];unfold snap;simp only[AVal.pure,Bool.false_eq_true,if_false,rowOf,Rd.bind,Rd.run,Rd.reads,h1,if_true,List.getElem?_cons_zero,e1];unfold snap;simp only[AVal.pure,Bool.false_eq_true,if_false,rowOf,Rd.bind,Rd.run,Rd.reads,h2,if_true,Nat.zero_add,List.length_map,Nat.le_refl,and_self,List.drop_zero];rw[show List.take l.length (List.map enc l)=List.map enc l from List.take_of_length_le (by simp)]
  simp only[hall,if_true,Rd.bind,Rd.run,Rd.reads,and_self]
end Go.AM
