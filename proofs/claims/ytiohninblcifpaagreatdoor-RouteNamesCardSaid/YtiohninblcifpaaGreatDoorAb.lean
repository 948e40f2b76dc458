/- Parts put together. No conditions. -/
import Derived.Test.YtiohninblcifpaaGreatDoorAa
import Derived.CheckFast
import Derived.OrdersIn
import Derived.Lib.BytesEntry
import Derived.Laws.Externs
import Derived.RangeFuncRecord
import Derived.RangeFuncNested
import Derived.RecoverIn
set_option linter.unusedSectionVars false
section
namespace Go.AM
def gD{α:Type}(n:Nat)(k:Nat→α):α:=match n with | 0=>k 0|m+1=>k (m+1)
theorem fe{α:Type}(n:Nat)(k:Nat→α):gD n k=k n:=by cases n<;>rfl
def IW{α:Type}(n:Int)(k:Int→α):α:=match n with | .ofNat m=>gD m fun m=>k (.ofNat m) | .negSucc m=>gD m fun m=>k (.negSucc m)
theorem Kh{α:Type}(n:Int)(k:Int→α):IW n k=k n:=by cases n<;>simp[IW,fe]
def lz[g:ax]:Bool:=g.default.lazy
def tT[ax]{α:Type}(n:Nat)(k:Nat→α):α:=match lz with
 |true=>k n
 |false=>gD n k
theorem vU[ax]{α:Type}(n:Nat)(k:Nat→α):tT n k=k n:=by unfold tT;split<;>simp[fe]
def IX[ax]{α:Type}(v:Value)(k:Value→α):α:=match v with
 | .int t n=>match lz with
  |true=>k (.int t n)
  |false=>IW n fun n=>k (.int t n)
 | .bool b=>match lz with
  |true=>k (.bool b)
  |false=>match b with
   |true=>k (.bool true)
   |false=>k (.bool false)
 |v=>k v
theorem Ki[ax]{α:Type}(v:Value)(k:Value→α):IX v k=k v:=by
 unfold IX;grind [Kh]
def fJ{α β:Type}:List β→(List β→α)→α
 | [],k=>k []
 |a::as,k=>fJ as fun as=>k (a::as)
theorem cR{α β:Type}:∀(l:List β) (k:List β→α),fJ l k=k l
 | [],_=>rfl
 |a::as,k=>by simp only[fJ,cR as]
def xZ{α:Type}:List (List AVal)→(List (List AVal)→α)→α
 | [],k=>k []
 |a::as,k=>fJ a fun a=>xZ as fun as=>k (a::as)
theorem CV{α:Type}:∀(v:List (List AVal)) (k:List (List AVal)→α),xZ v k=k v
 | [],k=>by simp only[xZ]
 |a::as,k=>by simp only[xZ,cR a,CV as]
def DV[ax]{α:Type}(v:List (List AVal))(k:List (List AVal)→α):α:=match lz with
 |true=>k v
 |false=>xZ v k
theorem Eg[ax]{α:Type}(v:List (List AVal))(k:List (List AVal)→α):DV v k=k v:=by grind [DV,CV]
def IY[ax]{α:Type}(v:List AVal)(k:List AVal→α):α:=match lz with
 |true=>k v
 |false=>fJ v k
theorem Kj[ax]{α:Type}(v:List AVal)(k:List AVal→α):IY v k=k v:=by unfold IY;split<;>simp[cR]
def nF[ax]{α:Type}:AVal→(AVal→α)→α
 | .sc v,k=>IX v fun v=>k (.sc v)
 | .agg cs,k=>fJ cs fun cs=>k (.agg cs)
 | .bV cs,k=>fJ cs fun cs=>k (.bV cs)
 | .ptr b ak i o,k=>gD b fun b=>gD ak fun ak=>tT i fun i=>tT o fun o=>k (.ptr b ak i o)
 | .bp cs o,k=>IY cs fun cs=>tT o fun o=>k (.bp cs o)
 | .sl b ak sz o n,k=>gD b fun b=>gD ak fun ak=>gD sz fun sz=>tT o fun o=>tT n fun n=>k (.sl b ak sz o n)
 | .aD rows,k=>DV rows fun rows=>k (.aD rows)
 | .fn f a b,k=>fJ a fun a=>fJ b fun b=>k (.fn f a b)
 | .ei t v,k=>nF v fun v=>k (.ei t v)
 | .mp b,k=>gD b fun b=>k (.mp b)
 | .gj b,k=>gD b fun b=>k (.gj b)
 | .sa b ak i o s n,k=>gD b fun b=>gD ak fun ak=>tT i fun i=>tT o fun o=>gD s fun s=>tT n fun n=>k (.sa b ak i o s n)
 | .eU i o,k=>gD i fun i=>gD o fun o=>k (.eU i o)
 | .emp,k=>k .emp
 | .nz b,k=>k (.nz b)
 | .aq,k=>k .aq
theorem A8[ax]{α:Type}:∀(v:AVal) (k:AVal→α),nF v k=k v
 | .sc v,k=>by simp[nF,Ki]
 | .agg cs,k=>by simp only[nF,cR cs]
 | .bV cs,k=>by simp only[nF,cR cs]
 | .ptr ..,k=>by simp only[nF,fe,vU]
 | .bp cs o,k=>by simp only[nF,Kj cs,vU]
 | .sl ..,k=>by simp only[nF,fe,vU]
 | .aD rows,k=>by simp only[nF,Eg rows]
 | .fn f a b,k=>by grind [nF,cR]
 | .ei t v,k=>by simp only[nF,A8 v]
 | .mp b,k=>by simp only[nF,fe]
 | .gj b,k=>by simp only[nF,fe]
 | .sa ..,k=>by simp only[nF,fe,vU]
 | .eU i o,k=>by simp only[nF,fe]
 | .emp,k=>by simp only[nF]
 | .nz b,k=>by simp only[nF]
 | .aq,k=>by simp only[nF]
def wN[ax]{α:Type}:List AVal→(List AVal→α)→α
 | [],k=>k []
 |a::as,k=>nF a fun a=>wN as fun as=>k (a::as)
theorem dM[ax]{α:Type}:∀(v:List AVal) (k:List AVal→α),wN v k=k v
 | [],k=>by simp only[wN]
 |a::as,k=>by simp only[wN,A8 a,dM as]
def A9[ax]{α:Type}:List (AVal×AVal×Nat)→(List (AVal×AVal×Nat)→α)→α
 | [],k=>k []
 |a::as,k=>nF a.1 fun x=>nF a.2.1 fun y=>gD a.2.2 fun z=>A9 as fun as=>k ((x,y,z)::as)
theorem CW[ax]{α:Type}:∀(l:List (AVal×AVal×Nat)) (k:List (AVal×AVal×Nat)→α),A9 l k=k l
 | [],k=>rfl
 |a::as,k=>by simp only[A9,A8,fe,CW as]
def Gw[ax]{α:Type}(l:List (AVal×AVal×Nat))(k:List (AVal×AVal×Nat)→α):α:=match lz with
 |true=>k l
 |false=>A9 l k
theorem IZ[ax]{α:Type}(l:List (AVal×AVal×Nat))(k:List (AVal×AVal×Nat)→α):Gw l k=k l:=by grind [Gw,CW]
def Gx[ax]{α:Type}(x:af)(k:af→α):α:=match x with
 | .aR=>k .aR
 | .dead=>k .dead
 | .row ak sz rows=>gD ak fun ak=>gD sz fun sz=>DV rows fun rows=>k (.row ak sz rows)
 | .map clock es=>tT clock fun clock=>Gw es fun es=>k (.map clock es)
 | .loop st pend fid A ps assign body=>fJ A fun A=>k (.loop st pend fid A ps assign body)
 | .defs=>k .defs
 | .iter m since seen stepped=>k (.iter m since seen stepped)
theorem F4[ax]{α:Type}(x:af)(k:af→α):Gx x k=k x:=by
 cases x<;>simp only[Gx,fe,vU,Eg,IZ,cR]
def wO{α β:Type}:List β→Nat→β→(List β→α)→α
 | [],_,_,k=>k []
 |_::as,0,v,k=>k (v::as)
 |a::as,d+1,v,k=>wO as d v fun as=>k (a::as)
theorem kD{α β:Type}:∀(l:List β) (d:Nat) (v:β) (k:List β→α),wO l d v k=k (l.set d v)
 | [],_,_,_=>rfl
 |_::_,0,_,_=>rfl
 |a::as,d+1,v,k=>by simp only[wO,kD as,List.set_cons_succ]
def DW[ax]{α:Type}:List af→(List af→α)→α
 | [],k=>k []
 |a::as,k=>Gx a fun a=>DW as fun as=>k (a::as)
theorem Eh[ax]{α:Type}:∀(l:List af) (k:List af→α),DW l k=k l
 | [],_=>rfl
 |a::as,k=>by simp only[DW,F4,Eh as]
def JO{α:Type}(x:af)(k:af→α):α:=match x with
 | .aR=>k .aR
 | .dead=>k .dead
 | .row ak sz rows=>k (.row ak sz rows)
 | .map clock es=>k (.map clock es)
 | .loop st pend fid A ps assign body=>k (.loop st pend fid A ps assign body)
 | .defs=>k .defs
 | .iter m since seen stepped=>k (.iter m since seen stepped)
theorem I1{α:Type}(x:af)(k:af→α):JO x k=k x:=by cases x<;>rfl
def pq{α:Type}:List af→(List af→α)→α
 | [],k=>k []
 |a::as,k=>JO a fun a=>pq as fun as=>k (a::as)
theorem ct{α:Type}:∀(l:List af) (k:List af→α),pq l k=k l
 | [],_=>rfl
 |a::as,k=>by simp only[pq,I1,ct as]
def Gy[ax]{α:Type}:List (Nat×af)→(List (Nat×af)→α)→α
 | [],k=>k []
 |a::as,k=>gD a.1 fun n=>Gx a.2 fun x=>Gy as fun as=>k ((n,x)::as)
theorem F5[ax]{α:Type}:∀(l:List (Nat×af)) (k:List (Nat×af)→α),Gy l k=k l
 | [],_=>rfl
 |a::as,k=>by simp only[Gy,fe,F4,F5 as]
def Cf[ax]{α:Type}(e:cF)(k:cF→α):α:=nF e.val fun v=>Gy e.cZ fun u=>DW e.news fun n=>k {val:=v,cZ:=u,news:=n}
theorem gR[ax]{α:Type}(e:cF)(k:cF→α):Cf e k=k e:=by simp only[Cf,A8,F5,Eh]
def DX{α:Type}:List (Nat×af)→List af→(List af→α)→α
 | [],H,k=>k H
 |p::ps,H,k=>wO H p.1 p.2 fun H=>DX ps H k
theorem Ei{α:Type}:∀(l:List (Nat×af)) (H:List af) (k:List af→α),DX l H k=k (l.foldl (fun H p=>H.set p.1 p.2) H)
 | [],_,_=>rfl
 |p::ps,H,k=>by simp only[DX,kD,Ei ps,List.foldl_cons]
def Ba{α:Type}(H:List af)(l:List af)(k:List af→α):α:=match l with
 | []=>k H
 |a::as=>fJ (H++a::as) k
theorem mC{α:Type}(H l:List af)(k:List af→α):Ba H l k=k (H++l):=by
 cases l<;>simp[Ba,cR]
def lP{α:Type}(e:cF)(H:List af)(k:List af→α):α:=DX e.cZ H fun H=>Ba H e.news k
theorem dr{α:Type}(e:cF)(H:List af)(k:List af→α):lP e H k=k (e.apply H):=by
 simp only[lP,Ei,mC,cF.apply]
def oO:List UInt8→List UInt8→Bool
 | [],[]=>true
 |a::as,b::bs=>a.toNat==b.toNat&&oO as bs
 |_,_=>false
theorem ya:∀{a b:List UInt8},oO a b=true→a=b
 | [],[],_=>rfl
 |a::as,b::bs,h=>by
  simp only[oO,Bool.and_eq_true,beq_iff_eq]at h;rw[UInt8.toNat_inj.1 h.1,ya h.2]
 | [],_::_,h=>by simp[oO]at h
 |_::_,[],h=>by simp[oO]at h
def Gz:Value→Value→Bool
 | .int k a,.int k' b=>decide (k=k')&&decide (a=b)
 | .bool a,.bool b=>a==b
 | .string a,.string b=>oO a.data.toList b.data.toList
 | .nilIface,.nilIface=>true
 | .nilFunc,.nilFunc=>true
 | .slice none 0 0,.slice none 0 0=>true
 | .pointer none,.pointer none=>true
 | .map none,.map none=>true
 | .tuple a,.tuple b=>a.size==0&&b.size==0
 |_,_=>false
theorem I2:∀{a b:Value},Gz a b=true→a=b:=by
 intro a b h;unfold Gz at h;split at h<;>try rfl
 ·grind
 ·simp only[beq_iff_eq]at h;rw[h]
 ·rename_i a b;have:=ya h;obtain⟨a⟩:=a;simp_all
 ·grind
 ·cases h
mutual
def same:AVal→AVal→Bool
 | .sc v,.sc u=>Gz v u
 | .agg a,.agg b=>pz a b
 | .bV a,.bV b=>pz a b
 | .bp a o,.bp b o'=>pz a b&&o==o'
 | .aD a,.aD b=>vV a b
 | .fn (.func f) a b,.fn (.func f') a' b'=>f==f'&&pz a a'&&pz b b'
 | .ei t a,.ei t' b=>t==t'&&same a b
 | .eU i o,.eU i' o'=>i==i'&&o==o'
 | .ptr b v i o,.ptr b' v' i' o'=>b==b'&&v==v'&&i==i'&&o==o'
 | .sl b v s o n,.sl b' v' s' o' n'=>b==b'&&v==v'&&s==s'&&o==o'&&n==n'
 | .sa b v i o s n,.sa b' v' i' o' s' n'=>b==b'&&v==v'&&i==i'&&o==o'&&s==s'&&n==n'
 | .mp b,.mp b'=>b==b'
 | .gj b,.gj b'=>b==b'
 | .emp,.emp=>true
 | .nz b,.nz b'=>b==b'
 | .aq,.aq=>true
 |_,_=>false
def pz:List AVal→List AVal→Bool
 | [],[]=>true
 |a::as,b::bs=>same a b&&pz as bs
 |_,_=>false
def vV:List (List AVal)→List (List AVal)→Bool
 | [],[]=>true
 |a::as,b::bs=>pz a b&&vV as bs
 |_,_=>false
end
mutual
theorem qy:∀(a b:AVal),same a b=true→a=b
 | .sc v,b,h=>by cases b<;>simp[same]at h;rw[I2 h]
 | .agg x,b,h=>by cases b<;>simp[same]at h;rw[mD _ _ h]
 | .bV x,b,h=>by cases b<;>simp[same]at h;rw[mD _ _ h]
 | .ptr ..,b,h=>by cases b<;>simp[same]at h;grind
 | .bp x o,b,h=>by cases b<;>simp[same]at h;rw[mD _ _ h.1,h.2]
 | .sl ..,b,h=>by cases b<;>simp[same]at h;grind
 | .aD x,b,h=>by cases b<;>simp[same]at h;rw[yb _ _ h]
 | .fn f x y,b,h=>by
  cases b with
  |fn g x' y'=>
   cases f<;>cases g<;>simp[same]at h
   obtain⟨⟨h1,h2⟩,h3⟩:=h;rw[h1,mD _ _ h2,mD _ _ h3]
  |_=>cases f<;>simp[same]at h
 | .ei t x,b,h=>by cases b<;>simp[same]at h;rw[h.1,qy _ _ h.2]
 | .mp _,b,h=>by cases b<;>simp[same]at h;rw[h]
 | .gj _,b,h=>by cases b<;>simp[same]at h;rw[h]
 | .sa ..,b,h=>by cases b<;>simp[same]at h;grind
 | .eU i o,b,h=>by cases b<;>simp[same]at h;rw[h.1,h.2]
 | .emp,b,h=>by cases b<;>simp[same]at h;rfl
 | .nz _,b,h=>by cases b<;>simp[same]at h;rw[h]
 | .aq,b,h=>by cases b<;>simp[same]at h;rfl
theorem mD:∀(a b:List AVal),pz a b=true→a=b
 | [],b,h=>by cases b<;>simp[pz]at h;rfl
 |a::as,b,h=>by cases b<;>simp[pz]at h;rw[qy _ _ h.1,mD _ _ h.2]
theorem yb:∀(a b:List (List AVal)),vV a b=true→a=b
 | [],b,h=>by cases b<;>simp[vV]at h;rfl
 |a::as,b,h=>by cases b<;>simp[vV]at h;rw[mD _ _ h.1,yb _ _ h.2]
end
def vW:List (AVal×AVal×Nat)→List (AVal×AVal×Nat)→Bool
 | [],[]=>true
 |a::as,b::bs=>same a.1 b.1&&same a.2.1 b.2.1&&a.2.2==b.2.2&&vW as bs
 |_,_=>false
theorem CX:∀(a b:List (AVal×AVal×Nat)),vW a b=true→a=b
 | [],b,h=>by cases b<;>simp[vW]at h;rfl
 | (k,v,n)::as,b,h=>by
  cases b with
  |nil=>simp[vW]at h
  |cons b bs=>
   obtain⟨k',v',n'⟩:=b;simp only[vW,Bool.and_eq_true,beq_iff_eq]at h;rw[qy _ _ h.1.1.1,qy _ _ h.1.1.2,h.1.2,CX _ _ h.2]
def qz:af→af→Bool
 | .aR,.aR=>true
 | .dead,.dead=>true
 | .row v s r,.row v' s' r'=>v==v'&&s==s'&&vV r r'
 | .map c es,.map c' es'=>c==c'&&vW es es'
 |_,_=>false
theorem GA{a b:af}(h:qz a b=true):a=b:=by
 unfold qz at h;grind [yb,CX]
end Go.AM
end
section
namespace Go.AM
section
variable [ax] {P:Program} {a:Act} {o:Oper} {g:Gh} {H:List af} {w:World} {ai:Operand→AVal}
theorem As{K:TypeId}{k:AVal}{x:Value}(h:R g w k x)(hs:jB k=eE P K):∃vs,RL g w k.cells vs∧gX P K vs x:=by
 by_cases ha:jB k=true
 ·cases k<;>simp only[jB,Bool.false_eq_true]at ha
  simp only[R]at h;obtain⟨vs,rfl,_,hl⟩:=h;exact⟨vs,hl,by grind [jB,gX]⟩
 ·have hcells:k.cells=[k]:=by cases k<;>first |rfl |exact absurd rfl ha
  exact⟨[x],by grind [RL],by simp[gX,← hs,ha]⟩
theorem CY{K:TypeId}{k:AVal}{x:Value}{ks:List Kd}(hk:iw P K k=some ks)(h:R g w k x):cS P 9 K=some ks∧jB k=eE P K∧∃vs,RL g w k.cells vs∧gX P K vs x:=by
 grind [iw,As]
theorem lQ(empty:Bool)(D:Nat):∀(d t:Nat) (ks:List Kd),cS P d t=some ks→∀{vs:List Value} {w:World} {x:Value},vs.length=ks.length→gX P t vs x→(Instr.checkKey empty (D+d) t x).run P w=.ok () w
 | 0,t,ks,h,_,_,_,_,_=>by simp[cS]at h
 |d+1,t,ks,h,vs,w,x,hl,hx=>by
  unfold cS at h;rw[show D+(d+1)=(D+d)+1 from rfl];split at h
  ·rename_i hu;simp[Instr.checkKey,run_underlying hu]
  ·rename_i k hu;simp[Instr.checkKey,run_underlying hu]
  ·rename_i hu;simp[Instr.checkKey,run_underlying hu]
  ·rename_i fs hu;split at h
   ·cases h
   ·split at h
    ·rename_i ks' hks;split at h<;>simp at h
     subst h;have ha:eE P t=true:=by simp[eE,hu]
     simp only[gX,ha,if_true]at hx;subst hx;rw[Instr.checkKey];simp only[Sem.run_bind,run_underlying hu,Result.andThen_ok];rw[← Array.forIn_toList];have key:∀(L:List Field) (off:Nat) (ks1:List Kd),cS.kindsFields P (cS P d) L off=some ks1→off+ks1.length≤vs.length→
      ∀ f ∈ L, f.name ≠ "_" ∧ ∃ x1, (part f.type vs.toArray f.offset).run P w = .ok x1 w ∧ (Instr.checkKey empty (D + d) f.type x1).run P w = .ok () w := by
      intro L;induction L with
      |nil=>intro _ _ _ _ f hf;simp at hf
      |cons f L ih=>
       intro off ks1 hk hle q hq;unfold cS.kindsFields at hk;split at hk
       ·rename_i hf;split at hk
        ·rename_i k1 hk1;split at hk
         ·rename_i hsz;obtain⟨k2,hk2,rfl⟩:=Option.map_eq_some_iff.1 hk;simp only[List.length_append]at hle;obtain⟨s1,s2,s3⟩:=je hk1;rcases List.mem_cons.1 hq with rfl |hq
          ·refine⟨hf.1,?_⟩;obtain⟨x1,p1,p2⟩:=ng (P:=P) (w:=w) (vs:=vs) (off:=off) s1 s2 (fun ha=>by have:=s3 ha;omega)
           refine⟨x1,by rw[hf.2];exact p1,lQ empty D d _ k1 hk1 (by simp;omega) p2⟩
          grind
         ·cases hk
        ·cases hk
       ·cases hk
     have each:=key fs.toList 0 ks' hks (by omega)
     clear key hks;generalize fs.toList=L at each;induction L with
     |nil=>simp
     |cons f L ih=>
      obtain⟨hn,x1,p1,p2⟩:=each f (by simp)
      simp_all
    ·cases h
  ·rename_i n e hu;split at h
   ·rename_i ks' hks;split at h<;>simp at h
    rename_i hsz;subst h;have ha:eE P t=true:=by simp[eE,hu]
    simp only[gX,ha,if_true]at hx;subst hx;simp only[Bool.and_eq_true,beq_iff_eq]at hsz;obtain⟨s1,s2,s3⟩:=je hks;have hi:∃i,P.info? e=some i∧P.cellsOf e=ks'.length:=by
     unfold cB at hsz;cases hq:P.info? e with
     |none=>simp[hq]at hsz
     |some i=>exact⟨i,rfl,by simpa[hq,Program.cellsOf]using hsz.1⟩
    obtain⟨i,hi,hce⟩:=hi;have hlen:vs.length=n*ks'.length:=by rw[hl];simp
    rw[Instr.checkKey];simp only[Sem.run_bind,run_underlying hu,Result.andThen_ok];simp only[Std.Legacy.Range.forIn_eq_forIn_range',Std.Legacy.Range.size,Nat.sub_zero,Nat.add_one_sub_one,Nat.div_one];have each:∀j∈List.range' 0 n,∃x1,(part e vs.toArray (j*P.cellsOf e)).run P w=.ok x1 w∧(Instr.checkKey empty (D+d) e x1).run P w=.ok () w:=by
     intro j hj;have hjn:j<n:=by simpa using(List.mem_range'_1.1 hj).2
     have hb:(j+1)*ks'.length≤n*ks'.length:=Nat.mul_le_mul_right _ hjn;rw[Nat.add_mul,Nat.one_mul]at hb;obtain⟨x1,p1,p2⟩:=ng (P:=P) (w:=w) (vs:=vs) (off:=j*ks'.length) s1 s2 (fun ha=>by have:=s3 ha;omega)
     exact⟨x1,by rw[hce];exact p1,lQ empty D d _ ks' hks (by simp;omega) p2⟩
    generalize List.range' 0 n=is at each;induction is with
    |nil=>simp
    |cons j is ih=>
     obtain⟨x1,p1,p2⟩:=each j (by simp)
     simp only[List.forIn_cons,Sem.run_bind,run_sizeOf w hi,Result.andThen_ok,p1,p2,Sem.run_pure];simp_all
   ·cases h
  ·cases h
theorem nj{K:TypeId}{ks:List Kd}{k:AVal}{x:Value}(hks:cS P 9 K=some ks){vs:List Value}(h1:RL g w k.cells vs)(ha:gX P K vs x):
 ∀(es:List (AVal×AVal×Nat)) (l:List MapEntry) (i:Nat) (r:Option (Nat×AVal×Nat)),gO g w es l→oq ks (eE P K) k es i=some r→
  ∃r',(Instr.findAsking K x l i).run P w=.ok r' w∧(match r,r' with
   |none,none=>True
   |some (j,v,born),some (j',v')=>j=j'∧R g w v v'∧∃e,l[j - i]? =some e∧e.val=v'∧e.born=born∧i≤j∧(Op.equal K x e.key).run P w=.ok true w∧∃p,es[j - i]? =some p∧cz ks k.cells p.1.cells=some true
   |_,_=>False)
 | [],l,i,r,hl,h=>by
  simp[oq]at h;subst h;simp only[gO]at hl;subst hl;exact⟨none,by simp[Instr.findAsking],trivial⟩
 | (k',v,born)::es,l,i,r,hl,h=>by
  simp only[gO]at hl;obtain⟨e,l',rfl,r1,r2,r3,r4⟩:=hl;simp only[oq]at h;split at h
  ·rename_i hsh;obtain⟨vs',v1,v2⟩:=As (P:=P) (K:=K) r1 hsh;split at h
   ·rename_i heq;have heq2:(Op.equal K x e.key).run P w=.ok true w:=pe (g:=g) 9991 9 K ks hks h1 v1 heq ha v2;simp at h;subst h;refine⟨some (i,e.val),by simp[Instr.findAsking,heq2],rfl,r2,e,by simp,rfl,r3,Nat.le_refl _,heq2,_,by simp;rfl,heq⟩
   ·rename_i heq;have heq2:(Op.equal K x e.key).run P w=.ok false w:=pe (g:=g) 9991 9 K ks hks h1 v1 heq ha v2;obtain⟨r',q1,q2⟩:=nj hks h1 ha es l' (i+1) r r4 h;refine⟨r',by simp[Instr.findAsking,heq2,q1],?_⟩
    grind
   ·cases h
  ·cases h
theorem vX{K:TypeId}{kd:TypeDesc}(hu:P.underlying K=some kd){x:Value}:∀(l:List MapEntry) (i:Nat) (r:Option (Nat×Value)),Instr.findNow kd x l i=some r→(Instr.findAsking K x l i).run P w=.ok r w
 | [],i,r,h=>by simp[Instr.findNow]at h;subst h;simp[Instr.findAsking]
 |e::l,i,r,h=>by
  have eqs:∀b,Instr.sameNow kd x e.key=some b→(Op.equal K x e.key).run P w=.ok b w:=by
   intro b hb;generalize e.key=y at hb ⊢;unfold Instr.sameNow at hb;split at hb
   ·split at hb<;>simp at hb
    rename_i q hq;subst hq;subst hb;simp only[Op.equal,Op.maxDepth];exact run_equalIn_int w 9999 K _ _ _ _ hu
   ·simp at hb;subst hb;simp only[Op.equal,Op.maxDepth,beq_toListBytes];exact run_equalIn_string w 9999 K _ _ hu
   ·simp at hb;subst hb;simp only[Op.equal,Op.maxDepth];exact run_equalIn_bool' w 9999 K _ _ hu
   ·cases hb
  simp only[Instr.findNow]at h;split at h
  ·rename_i hs;simp at h;subst h;simp[Instr.findAsking,eqs _ hs]
  ·rename_i hs;simp[Instr.findAsking,eqs _ hs,vX hu l (i+1) r h]
  ·cases h
theorem run_findKey{K:TypeId}{x:Value}{l:List MapEntry}{r:Option (Nat×Value)}(hu:(P.underlying K).isSome)(h:(Instr.findAsking K x l 0).run P w=.ok r w):(Instr.findKey K x l).run P w=.ok r w:=by
 obtain⟨kd,hkd⟩:=Option.isSome_iff_exists.1 hu;simp only[Instr.findKey,Sem.run_bind,run_underlying hkd,Result.andThen_ok];cases hn:Instr.findNow kd x l 0 with
 |none=>simpa using h
 |some r'=>
  have:=vX (w:=w) hkd l 0 r' hn;simp_all
theorem Bb{T:Nat}{z:AVal}(h:wL P T=some z):∃x,(zeroValue T).run P w=.ok x w∧R g w z x:=by
 unfold wL at h;split at h
 ·rename_i i hi;obtain⟨x,hx,rfl⟩:=Option.map_eq_some_iff.1 h;exact⟨x,by simp[zeroValue,typeInfo,hi,hx],CQ x⟩
 ·cases h
theorem pE{x:AVal}{v:Value}{m:Option (Nat×Nat×List (AVal×AVal×Nat))}(hi:Inv g H w)(hr:R g w x v)(h:(mapOf x).run H=some m):
 (m=none∧v=.map none)∨∃b clock es k ents,m=some (b,clock,es)∧x=.mp b∧H[b]? =some (.map clock es)∧v=.map (some k)∧g.ai b 0=some (k,0)∧w.heap[k]? =some (.map ents clock)∧gO g w es ents.toList:=by
 unfold mapOf at h;split at h
 ·grind [Rd.run,eC]
 ·rename_i b;simp only[Rd.run]at h;split at h
  ·rename_i y hy;split at h
   ·rename_i clock es;simp[Rd.run]at h;subst h;obtain⟨k,ents,h1,h2,h3⟩:=hi.good b _ hy;grind [R]
   ·simp[Rd.run]at h
  ·cases h
 ·simp[Rd.run]at h
theorem GB{T K E:Nat}{x kv zv:Value}{l:List MapEntry}{ok:Bool}{r:Option (Nat×Value)}(hu:P.underlying T=some (.map K E))(hx:(x=.map none∧l=[])∨∃k ents clock,x=.map (some k)∧w.heap[k]? =some (.map ents clock)∧ents.toList=l)
 (hck:∀em,(Instr.checkKey em 10000 K kv).run P w=.ok () w) (hz:(zeroValue E).run P w=.ok zv w) (hf:(Instr.findKey K kv l).run P w=.ok r w):
 (Instr.lookup T x kv ok).run P w=.ok (if ok then .tuple #[(r.map (·.2)).getD zv,.bool r.isSome]else(r.map (·.2)).getD zv) w:=by
 rcases hx with⟨rfl,rfl⟩ |⟨k,ents,clock,rfl,hk,rfl⟩
 ·cases r<;>cases ok<;>simp[Instr.lookup,run_underlying hu,hck,hf,hz]
 ·have hg:(getObj k).run P w=.ok (.map ents clock) w:=by simp[getObj,Sem.run,hk]
  cases r<;>cases ok<;>simp[Instr.lookup,run_underlying hu,hck,hf,hz,hg]
theorem GC{T:Nat}{x k:Operand}{ok:Bool}{aT:cF}(hi:Inv g H w)(hρ:∀x,R g w (ai x) (a.eval x))(ho:o.op=.lookup T x k ok)(h:(tM P T (ai x) (ai k) ok).run H=some aT):bD P a o g H w aT:=by
 unfold tM at h;split at h
 ·rename_i K E hu;split at h
  ·rename_i ks hks;obtain⟨hk1,hk2,vs,hk3,hk4⟩:=CY hks (hρ k);obtain⟨m,hm,h⟩:=bind_some h;split at h
   ·rename_i b0 r z hself hfind hz;simp[Rd.run]at h;subst h;obtain⟨zv,z1,z2⟩:=Bb (w:=w) hz;obtain⟨s1,s2,s3⟩:=je hk1;have hlen:vs.length=ks.length:=by rw[(cK _ _ hk3).1];exact(iW hself).1
    have hck:∀em,(Instr.checkKey em 10000 K (a.eval k)).run P w=.ok () w:=fun em=>lQ em 9991 9 K ks hk1 hlen hk4
    have fin:∀(es:List (AVal×AVal×Nat)) (l:List MapEntry),gO g w es l→oq ks (eE P K) (ai k) es 0=some r→
     ((a.eval x=.map none∧l=[])∨∃k ents clock,a.eval x=.map (some k)∧w.heap[k]? =some (.map ents clock)∧ents.toList=l)→
     bD P a o g H w {val:=if ok then .bV [match r with |some (_,v,_)=>v |none=>z,.sc (.bool r.isSome)]else match r with |some (_,v,_)=>v |none=>z}:=by
     intro es l hes hf hx;obtain⟨r',q1,q2⟩:=nj hk1 hk3 hk4 es l 0 r hes hf;have hrun:=GB (ok:=ok) hu hx hck z1 (run_findKey s2 q1);have hval:r'.isSome=r.isSome∧R g w (match r with |some (_,v,_)=>v |none=>z) ((r'.map (·.2)).getD zv):=by
      match r,r',q2 with
      |none,none,_=>exact⟨rfl,z2⟩
      |some (j,u,bn),some (j',u'),⟨p1,p2,_⟩=>exact⟨rfl,p2⟩
     refine bD.pure hi (by simp[execOp,ho,hrun];rfl) ?_
     cases ok
     ·simpa using hval.2
     ·grind [R,RL]
    rcases pE hi (hρ x) hm with⟨rfl,hv⟩ |⟨b,clock,es,kk,ents,rfl,hx,hb,hv,hrk,hheap,hents⟩
    ·exact fin [] [] rfl hfind (.inl ⟨hv,rfl⟩)
    grind
   ·simp[Rd.run]at h
  ·simp[Rd.run]at h
 ·simp[Rd.run]at h
theorem zP(n:Nat){ks:List Kd}:∀{cs ds:List AVal} {vs us:List Value},cz ks cs ds=some true→RL g w cs vs→RL g w ds us→(us.zip vs).all (fun p=>Instr.sameBits n p.1 p.2)=true∧us.length=vs.length:=by
 induction ks with
 |nil=>
  intro cs ds vs us h hc hd;cases cs<;>cases ds<;>simp[cz]at h
  simp only[RL]at hc hd;subst hc;subst hd;simp
 |cons q qs ih=>
  intro cs ds vs us h hc hd;cases cs<;>cases ds<;>simp only[cz]at h
  all_goals (try cases h)
  rename_i c cs d ds;split at h
  ·rename_i x y h1 h2;simp at h;obtain⟨rfl,rfl⟩:=h;simp only[RL]at hc hd;obtain⟨v,vs',rfl,r1,r2⟩:=hc;obtain⟨u,us',rfl,r3,r4⟩:=hd;obtain⟨i1,i2⟩:=ih h2 r2 r4;refine⟨?_,by simp[i2]⟩
   simp only[List.zip_cons_cons,List.all_cons,i1,Bool.and_true];unfold vS at h1;split at h1
   ·split at h1<;>simp at h1
    rename_i hq;have:=eC r1;subst this;have:=eC r3;subst this;obtain⟨rfl,rfl⟩:=hq;subst h1;cases n<;>simp[Instr.sameBits]
   ·simp at h1;have:=eC r1;subst this;have:=eC r3;subst this;subst h1;cases n<;>simp[Instr.sameBits]
   ·rename_i p1 p2;have h3:(p1==p2)=true:=(beq_toListBytes _ _).trans (by simpa using h1)
    have h4:(p2==p1)=true:=by rw[beq_toListBytes]at h3 ⊢;simp at h3 ⊢;exact h3.symm
    have:=eC r1;subst this;have:=eC r3;subst this;cases n<;>simp only[Instr.sameBits]<;>exact h4
   ·cases h1
  ·cases h
theorem I3{K:TypeId}{ks:List Kd}{k k':AVal}{x x':Value}{vs vs':List Value}(h1:RL g w k.cells vs)(ha:gX P K vs x)(h2:RL g w k'.cells vs')(ha':gX P K vs' x')(he:cz ks k.cells k'.cells=some true):
 (Instr.keyThatStays x' x).run P w=.ok x w:=by
 have hsb:Instr.sameBits 10000 x' x=true:=by
  by_cases hag:eE P K=true
  ·simp only[gX,hag,if_true]at ha ha';subst ha;subst ha';obtain⟨b1,b2⟩:=zP 9999 he h1 h2;simp only[Instr.sameBits,List.size_toArray,b2,beq_self_eq_true,Bool.true_and];exact b1
  ·simp only[gX,hag,Bool.false_eq_true,if_false]at ha ha';subst ha;subst ha';obtain⟨b1,b2⟩:=zP 10000 he h1 h2;simpa using b1
 simp[Instr.keyThatStays,hsb]
theorem jC:∀{es:List (AVal×AVal×Nat)} {l:List MapEntry},gO g w es l→es.length=l.length∧∀(i:Nat) (p:AVal×AVal×Nat),es[i]? =some p→∃e,l[i]? =some e∧R g w p.1 e.key∧R g w p.2.1 e.val∧e.born=p.2.2
 | [],l,h=>by simp only[gO]at h;subst h;simp
 |q::qs,l,h=>by
  simp only[gO]at h;obtain⟨e,l',rfl,h1,h2,h3,h4⟩:=h;obtain⟨i1,i2⟩:=jC h4;grind
theorem rQ:∀{es:List (AVal×AVal×Nat)} {l:List MapEntry},es.length=l.length→(∀(i:Nat) (p:AVal×AVal×Nat) (e:MapEntry),es[i]? =some p→l[i]? =some e→R g w p.1 e.key∧R g w p.2.1 e.val∧e.born=p.2.2)→gO g w es l
 | [],l,h,_=>by grind [gO]
 |q::qs,[],h,_=>by simp at h
 |q::qs,e::l,h,hc=>by
  simp only[gO];obtain⟨h1,h2,h3⟩:=hc 0 q e (by simp) (by simp)
  exact⟨e,l,rfl,h1,h2,h3,rQ (by simpa using h) fun i p e' hp he=>hc (i+1) p e' (by simpa using hp) (by simpa using he)⟩
theorem FA(w:World)(k:Nat)(ob:Obj)(hk:k<w.heap.size):({w with heap:=w.heap.setIfInBounds k ob}:World).heap[k]? =some ob:=by
 simp[hk]
theorem Dy{w:World}{k:Nat}{es es':Array MapEntry}{c c':Nat}(hk:w.heap[k]? =some (.map es c)):∀j x,w.shape? j=some x→({w with heap:=w.heap.setIfInBounds k (.map es' c')}:World).shape? j=some x:=by
 intro j x hx;by_cases hj:j=k
 ·subst hj;simp[World.shape?,hk]at hx
 ·have:(w.heap.setIfInBounds k (.map es' c'))[j]? =w.heap[j]? :=Array.getElem?_setIfInBounds_ne (Ne.symm hj);simpa[World.shape?,this]using hx
theorem xD{T:Nat}{m k x:Operand}{aT:cF}(hi:Inv g H w)(hρ:∀x,R g w (ai x) (a.eval x))(ho:o.op=.mapUpdate T m k x∨o.op=.insert T m k x)(h:(oZ P T (ai m) (ai k) (ai x)).run H=some aT):bD P a o g H w aT:=by
 unfold oZ at h;split at h
 ·rename_i K E hu;split at h
  ·rename_i ks hks;obtain⟨hk1,hk2,vs,hk3,hk4⟩:=CY hks (hρ k);obtain⟨mm,hm,h⟩:=bind_some h;obtain⟨s1,s2,s3⟩:=je hk1;split at h
   ·rename_i b clock es;rcases pE hi (hρ m) hm with⟨hn,_⟩ |⟨b',clock',es',kk,ents,he,hx,hb,hv,hrk,hheap,hents⟩
    ·cases hn
    ·simp at he;obtain⟨rfl,rfl,rfl⟩:=he;have hkl:kk<w.heap.size:=(Array.getElem?_eq_some_iff.1 hheap).1;have hg:(getObj kk).run P w=.ok (.map ents clock) w:=by simp[getObj,Sem.run,hheap]
     have hset:∀ob,(setObj kk ob).run P w=.ok () {w with heap:=w.heap.setIfInBounds kk ob}:=by intro ob;simp[setObj,Sem.run,hheap]
     have hexec:∀{w'},(Instr.mapUpdate T (a.eval m) (a.eval k) (a.eval x)).run P w=.ok () w'→(execOp a.eval o).run P w=.ok .skip w':=by
      intro w' hr;rcases ho with ho |ho<;>simp[execOp,ho,hr]
     have place:∀(clock2:Nat) (es2:List (AVal×AVal×Nat)) (ents2:Array MapEntry),gO g w es2 ents2.toList→
      (Instr.mapUpdate T (a.eval m) (a.eval k) (a.eval x)).run P w=.ok () {w with heap:=w.heap.setIfInBounds kk (.map ents2 clock2)}→bD P a o g H w {val:=nothing,cZ:=[(b,.map clock2 es2)]}:=by
      intro clock2 es2 ents2 hE hrun;obtain⟨p1,p2⟩:=hi.za (w':={w with heap:=w.heap.setIfInBounds kk (.map ents2 clock2)}) (y:=.map clock2 es2) hb rfl hrk rfl (fun j hj=>Array.getElem?_setIfInBounds_ne (Ne.symm hj)) (by simp) (Dy hheap) rfl ⟨rfl,Nat.le_of_eq rfl⟩ rfl
       fun hext=>⟨kk,ents2,hrk,FA w kk _ hkl,vo hext _ _ hE⟩
      exact⟨undef,_,g,.inr ⟨hexec hrun,rfl⟩,by rw[bk];exact p1,by simp[nothing,R,undef],by rw[bk];exact p2⟩
     split at h
     ·rename_i b0 i v0 born hself hfind;simp[Rd.run]at h;subst h;have hlen:vs.length=ks.length:=by rw[(cK _ _ hk3).1];exact(iW hself).1
      have hck:∀em,(Instr.checkKey em 10000 K (a.eval k)).run P w=.ok () w:=fun em=>lQ em 9991 9 K ks hk1 hlen hk4
      obtain⟨r',q1,q2⟩:=nj hk1 hk3 hk4 es ents.toList 0 _ hents hfind;have hfk:=run_findKey s2 q1
      match r',q2 with
      |some (j',u'),⟨p1,p2,e,p3,p4,p5,p6,p7,p,p8,p9⟩=>
       subst p1;simp only[Nat.sub_zero]at p3 p8;obtain⟨e2,e3,e4,e5,e6⟩:=(jC hents).2 i p p8;rw[p3]at e3;cases e3;have hpsh:jB p.1=eE P K:=by
        have:∀(es:List (AVal×AVal×Nat)) (i0 i:Nat) (r:AVal×Nat),oq ks (eE P K) (ai k) es i0=some (some (i,r))→∀p,es[i - i0]? =some p→i0≤i→jB p.1=eE P K:=by
         intro es;induction es with
         |nil=>intro i0 i r h;simp[oq]at h
         |cons q qs ih=>
          intro i0 i r h p hp hle;grind [oq,eE]
        exact this es 0 i (v0,born) hfind p (by simpa using p8) (Nat.zero_le _)
       obtain⟨vs',y1,y2⟩:=As (P:=P) (K:=K) e4 hpsh;have hstay:=I3 (P:=P) (w:=w) hk3 hk4 y1 y2 p9;have hei:ents[i]? =some e:=by rw[← Array.getElem?_toList];exact p3
       have hrun:(Instr.mapUpdate T (a.eval m) (a.eval k) (a.eval x)).run P w=.ok () {w with heap:=w.heap.setIfInBounds kk (.map (ents.modify i fun e=>{e with key:=a.eval k,val:=a.eval x}) clock)}:=by
        simp[Instr.mapUpdate,run_underlying hu,hv,hg,hck,hfk,hei,hstay,hset]
       grind [rQ,jC]
     ·rename_i b0 hself hfind;simp[Rd.run]at h;subst h;have hlen:vs.length=ks.length:=by rw[(cK _ _ hk3).1];exact(iW hself).1
      have hck:∀em,(Instr.checkKey em 10000 K (a.eval k)).run P w=.ok () w:=fun em=>lQ em 9991 9 K ks hk1 hlen hk4
      obtain⟨r',q1,q2⟩:=nj hk1 hk3 hk4 es ents.toList 0 _ hents hfind;have hfk:=run_findKey s2 q1
      match r',q2 with
      |none,_=>
       have hrun:(Instr.mapUpdate T (a.eval m) (a.eval k) (a.eval x)).run P w=.ok () {w with heap:=w.heap.setIfInBounds kk (.map (ents.push {key:=a.eval k,val:=a.eval x,born:=clock}) (clock+1))}:=by
        simp[Instr.mapUpdate,run_underlying hu,hv,hg,hck,hfk,hset]
       grind [rQ,jC]
     ·simp[Rd.run]at h
   ·simp[Rd.run]at h
  ·simp[Rd.run]at h
 ·simp[Rd.run]at h
theorem zQ{nid T:Nat}{r:Option Operand}(hi:Inv g H w)(hρ:∀x,R g w (ai x) (a.eval x))(hn:H[nid]? =some .aR)(ho:o.op=.makeMap T r)(hu:∃K E,P.underlying T=some (.map K E))(hr:∀x,r=some x→∃q n,ai x=.sc (.int q n)):bD P a o g H w {val:=.mp nid,cZ:=[(nid,.map 0 [])]}:=by
 obtain⟨K,E,hu⟩:=hu;obtain⟨a1,a2,a3⟩:=hi.tR (sz:=0) (y:=.map 0 []) (ob:=.map #[] 0) hn rfl ⟨w.heap.size,#[],by simp[Gh.born],iV,rfl⟩
 refine⟨.map (some w.heap.size),w.alloc (.map #[] 0),_,.inl ?_,by rw[bk];exact a1,by grind [R],by rw[bk];exact a2⟩
 cases r with
 |none=>simp[execOp,ho,Instr.makeMap]
 |some x=>
  obtain⟨q,n,hq⟩:=hr x rfl;have:=hρ x;rw[hq]at this;have:=eC this;simp[execOp,ho,Instr.makeMap,run_underlying hu,this,asInt,asIntOf]
theorem GD{args:Array Operand}{ats:Array TypeId}{T K E:Nat}{x:Operand}{aT:cF}(hi:Inv g H w)(hρ:∀x,R g w (ai x) (a.eval x))(ho:o.op=.call {callee:=.builtin .len,args:=args,argTypes:=ats})(h0:ats[0]? =some T)(h1:args[0]? =some x)
 (hu:P.underlying T=some (.map K E)) (h:((mapOf (ai x)).bind fun m=>Rd.done {val:=.sc (.int .i64 (match m with |some (_,_,es)=>(es.length:Int) |none=>0))}).run H=some aT):bD P a o g H w aT:=by
 obtain⟨m,hm,h⟩:=bind_some h;simp only[Rd.run,Option.some.injEq]at h;subst h;rcases pE hi (hρ x) hm with⟨rfl,hv⟩ |⟨b,clock,es,k,ents,rfl,hx,hb,hv,hrk,hheap,hents⟩
 ·refine bD.pure hi (v:=.int .i64 0) ?_ (by simp[R])
  simp[execOp,ho,resolve,invoke,builtin,Builtin.len_,h0,h1,run_underlying hu,hv,goInt]
 ·refine bD.pure hi (v:=.int .i64 ents.size) ?_ ?_
  ·simp[execOp,ho,resolve,invoke,builtin,Builtin.len_,h0,h1,run_underlying hu,hv,goInt,getObj,Sem.run,hheap]
  ·have:=(jC hents).1;grind [R]
theorem Ej{nid T:Nat}{x:Operand}{aT:cF}(hi:Inv g H w)(hρ:∀x,R g w (ai x) (a.eval x))(hn:H[nid]? =some .aR)(ho:o.op=.range T x)(h:(xQ P nid T (ai x)).run H=some aT):bD P a o g H w aT:=by
 unfold xQ at h;split at h
 ·rename_i K E hu;obtain⟨m,hm,h⟩:=bind_some h;rcases pE hi (hρ x) hm with⟨rfl,hv⟩ |⟨b,clock,es,k,ents,rfl,hx,hb,hv,hrk,hheap,hents⟩
  ·simp only[Rd.run,Option.some.injEq]at h;subst h;obtain⟨a1,a2,a3⟩:=hi.tR (sz:=0) (y:=.iter (.sc (.map none)) 0 [] 0) (ob:=.mapIter none 0 #[] 0) hn rfl ⟨w.heap.size,none,by simp[Gh.born],iV,by simp[R]⟩
   refine⟨.pointer (some ⟨w.heap.size,0,none⟩),w.alloc (.mapIter none 0 #[] 0),_,.inl ?_,by rw[bk];exact a1,by grind [R],by rw[bk];exact a2⟩
   simp[execOp,ho,Instr.range,run_underlying hu,hv]
  ·simp only[Rd.run,Option.some.injEq]at h;subst h;have hne:b≠nid:=fun e=>by subst e;rw[hb]at hn;cases hn
   obtain⟨a1,a2,a3⟩:=hi.tR (sz:=0) (y:=.iter (.mp b) clock [] clock) (ob:=.mapIter (some k) clock #[] clock) hn rfl ⟨w.heap.size,some k,by simp[Gh.born],iV,by simp only[R];grind [Gh.born]⟩
   refine⟨.pointer (some ⟨w.heap.size,0,none⟩),w.alloc (.mapIter (some k) clock #[] clock),_,.inl ?_,by rw[bk];exact a1,by grind [R],by rw[bk];exact a2⟩
   simp[execOp,ho,Instr.range,run_underlying hu,hv,getObj,Sem.run,hheap]
 ·simp[Rd.run]at h
theorem zR{q:Nat}:∀{es:List (AVal×AVal×Nat)} {l:List MapEntry} {p:AVal×AVal×Nat},gO g w es l→es.find? (fun p=>p.2.2==q)=some p→∃e,l.find? (fun e=>e.born==q)=some e∧R g w p.1 e.key∧R g w p.2.1 e.val
 | [],_,_,_,h=>by cases h
 |r::rs,l,p,he,h=>by
  simp only[gO]at he;obtain⟨e,l',rfl,h1,h2,h3,h4⟩:=he;simp only[List.find?_cons]at h ⊢;rw[h3];cases hc:r.2.2==q with
  |true=>
   grind
  |false=>
   rw[hc]at h;exact zR h4 h
theorem HP{x:Operand}{aT:cF}(hi:Inv g H w)(hρ:∀x,R g w (ai x) (a.eval x))(ho:o.op=.entry x)(h:(A6 (ai x)).run H=some aT):bD P a o g H w aT:=by
 have hx:=hρ x;unfold A6 at h;split at h
 ·rename_i b hrx;rw[hrx]at hx;simp only[R]at hx;obtain⟨k,sz,hk,hx⟩:=hx;simp only[Rd.run]at h;cases hb:H[b]? with
  |none=>rw[hb]at h;cases h
  |some y=>
   rw[hb]at h;simp only at h;split at h
   ·rename_i m since seen stepped;obtain⟨mm,hm,hh⟩:=bind_some h;clear h;obtain⟨k1,mo,q1,q2,q3⟩:=hi.good b _ hb;rw[hk]at q1;simp only[Option.some.injEq,Prod.mk.injEq]at q1;obtain⟨rfl,-⟩:=q1;rcases pE hi q3 hm with⟨rfl,hv⟩ |⟨b',clock,es,k2,ents,rfl,hx2,hb2,hv,hrk,hheap,hents⟩
    ·simp[Rd.run]at hh
    ·simp only at hh;split at hh
     ·rename_i hcl;subst hcl;obtain⟨v,hv2,rfl⟩:=cm hh;unfold y8 at hv2;split at hv2
      ·rename_i st hst;obtain⟨p,hp,rfl⟩:=Option.map_eq_some_iff.1 hv2;obtain⟨e,he,r1,r2⟩:=zR hents hp;refine bD.pure hi (v:=.tuple #[e.key,e.val]) ?_ (by grind [R,RL])
       simp only[Value.map.injEq]at hv;subst hv;have hback:seen.toArray.back? =some st:=by rw[← hst];simp[Array.back?,List.getLast?_eq_getElem?]
       have hf:ents.find? (fun e=>e.born==st)=some e:=by rw[← Array.find?_toList];exact he
       simp only[Nat.zero_mul,Nat.add_zero]at hx;simp[execOp,ho,hx,Instr.entry,getObj,Sem.run,q2,hback,hheap,hf]
      ·cases hv2
     ·simp[Rd.run]at hh
   ·simp[Rd.run]at h
 ·simp[Rd.run]at h
end
end Go.AM
end
section
namespace Go.AM
namespace AVal
mutual
def flat:AVal→Bool
 | .sc _=>true
 | .agg cs=>tu cs
 | .bV cs=>tu cs
 | .fn _ a b=>tu a&&tu b
 | .ei _ v=>flat v
 | .eU _ _=>true
 | .emp=>true
 | .nz _=>true
 | .aq=>true
 |_=>false
def tu:List AVal→Bool
 | []=>true
 |a::as=>flat a&&tu as
end
mutual
def refs:AVal→List Nat
 | .agg cs=>kg cs
 | .bV cs=>kg cs
 | .ptr b .. =>[b]
 | .sl b .. =>[b]
 | .fn _ a b=>kg a++kg b
 | .ei _ v=>refs v
 | .mp b=>[b]
 | .gj b=>[b]
 | .sa b .. =>[b]
 |_=>[]
def kg:List AVal→List Nat
 | []=>[]
 |a::as=>refs a++kg as
end
end AVal
def gE(f:AVal→Rd AVal):List AVal→Rd (List AVal)
 | []=>.done []
 |a::as=>(f a).bind fun x=>(gE f as).bind fun xs=>.done (x::xs)
def vY(f:AVal→Rd AVal):List (List AVal)→Rd (List (List AVal))
 | []=>.done []
 |r::rs=>(gE f r).bind fun x=>(vY f rs).bind fun xs=>.done (x::xs)
def snap:Nat→AVal→Rd AVal
 | 0,_=>.fail
 |n+1,v=>if v.pure then .done v else
  match v with
  | .ptr b ak i o=>(rowOf b ak).bind fun x=>match x.2[i]? with
   |some r=>(gE (snap n) r).bind fun r'=>.done (.bp r' o)
   |none=>.fail
  | .sl b ak sz o m=>(rowOf b ak).bind fun x=>
   if x.1=sz∧o+m≤x.2.length then
    let rows:=(x.2.drop o).take m
    if rows.all AVal.aO then .done (.aD rows)else(vY (snap n) rows).bind fun rows'=>.done (.aD rows')
   else .fail
  | .sa b ak i o s m=>(rowOf b ak).bind fun x=>match x.2[i]? with
   |some cs=>if o+m*s≤cs.length then(gE (snap n) ((cs.drop o).take (m*s))).bind fun cs'=>.done (.aD (chunks s m cs'))else .fail
   |none=>.fail
  | .agg cs=>(gE (snap n) cs).bind fun cs'=>.done (.agg cs')
  | .bV cs=>(gE (snap n) cs).bind fun cs'=>.done (.bV cs')
  | .fn f p q=>(gE (snap n) p).bind fun p'=>(gE (snap n) q).bind fun q'=>.done (.fn f p' q')
  | .ei t u=>(snap n u).bind fun u'=>.done (.ei t u')
  |_=>.fail
def fm:Nat:=9
def closure:Nat→List Nat→List Nat→Rd (List Nat)
 |_,[],seen=>.done seen
 | 0,_::_,_=>.fail
 |n+1,b::todo,seen=>if seen.contains b then closure n todo seen else
  .get b fun
   | .row _ _ rows=>closure n ((if rows.all AVal.aO then[]else AVal.kg rows.flatten)++todo) (b::seen)
   | .loop _ _ _ A _ _ _=>closure n (AVal.kg A++todo) (b::seen)
   | .iter m _ _ _=>closure n (AVal.refs m++todo) (b::seen)
   |_=>closure n todo (b::seen)
structure dV where
 val:FuncId→Bool
 kill:FuncId→Nat→List Nat
 fz:FuncId→Bool:=fun _=>false
inductive aI where
 |ret (v:AVal)
 |aM (v:AVal)
structure gF where
 fn:FuncId→List AVal→List af→Option (aI×List af)
 xE:Nat→List AVal→List af→Option (aI×List af)
inductive nG where
 |call (f:FuncId) (args:List AVal)
 |mark (b:Nat)
structure St where
 A:List AVal
 H:List af
 D:List nG
def bQ(A:List AVal):Operand→AVal
 | .tmp t=>A.getD t nothing
 | .const v=>AVal.ofValue v
 | .global g=>.eU g 0
 | .func f=>.fn (.func f) [] []
def fG(A:List AVal)(d:Option Tmp)(v:AVal):List AVal:=match d with
 |some d=>A.set d v
 |none=>A
inductive Pre where
 |aT (e:cF)
 |tv (f:FuncId) (args:List AVal) (own:Bool)
 |gY (f:FuncId) (args:List AVal) (ids:List Nat)
 |Au (f:FuncId) (args:List AVal) (ids:List Nat)
 |round (b:Nat) (args:List AVal) (ids:List Nat)
 |defer (f:FuncId) (args:List AVal)
 |aM (v:AVal)
def callee(ai:Operand→AVal):Callee→Option (FuncId×List AVal×List AVal)
 | .value f=>match ai f with
  | .fn (.func n) p q=>some (n,p,q)
  |_=>none
 |_=>none
def kE(cfg:dV)(f:FuncId)(args:List AVal):Rd Pre:=
 if cfg.val f then(gE (snap fm) args).bind fun args'=>.done (.tv f args' (AVal.aO args))
 else(closure 1000 (AVal.kg args) []).bind fun ids=>.done (if cfg.fz f then .Au f args ids else .gY f args ids)
def yc(fn : Func) : Bool := fn.name == "internal/bytealg.Compare" && (fn.origin == "" || fn.origin == "internal/bytealg.Compare")
def Av(fn:Func)(args:List AVal):Rd Pre:=
 if yc fn then match args with
  | [x,y]=>(elems x).bind fun a=>(elems y).bind fun b=>match o6 a,o6 b with
   |some xs,some ys=>.done (.aT {val:=.sc (.int .i64 (Lib.compareBytes (Lib.bytesOf xs) (Lib.bytesOf ys)))})
   |_,_=>.fail
  |_=>.fail
 else .fail
def cc:Op→Bool
 | .alloc _ | .box .. | .buildSlice .. | .makeSlice .. | .makeMap .. | .range .. =>true
 | .call {callee:=.builtin .append,.. }=>true
 |_=>false
def bf[ax](P:Program)(cfg:dV)(nid:Nat)(ai:Operand→AVal)(op:Op):Rd Pre:=
 match op with
 | .call {callee:=.value f,args:=args,.. }=>match ai f with
  | .fn (.func n) p q=>match P.funcs[n]? with
   |some fn=>if fn.body.isNone then Av fn (p++args.toList.map ai++q)else kE cfg n (p++args.toList.map ai++q)
   |none=>.fail
  | .gj b=>(closure 1000 (b::AVal.kg (args.toList.map ai)) []).bind fun ids=>.done (.round b (args.toList.map ai) ids)
  |_=>.fail
 | .defer {callee:=.value f,args:=args,.. }=>match callee ai (.value f)with
  |some (n,p,q)=>.done (.defer n (p++args.toList.map ai++q))
  |none=>.fail
 | .panic x=>match ai x with
  | .ei t v=>if v.flat then .done (.aM (.ei t v))else .fail
  |_=>.fail
 |op=>if cc op then .get nid fun
  | .aR=>(bN P nid ai op).bind fun e=>.done (.aT e)
  |_=>.fail
  else(bN P nid ai op).bind fun e=>.done (.aT e)
def mask(ids:List Nat)(H:List af):List af:=H.mapIdx fun i x=>if ids.contains i then x else .dead
def ry(n:Nat):af→Bool
 | .row _ _ rows=>rows.all fun r=>AVal.ku n r
 | .map _ es=>es.all fun p=>p.1.eR n&&p.2.1.eR n
 | .loop _ _ _ A _ _ _=>AVal.ku n A
 | .iter m _ _ _=>m.eR n
 |_=>true
inductive Fin where
 |ok (e:cF)
 |aM (v:AVal) (ids:List Nat)
 |defer (f:FuncId) (args:List AVal)
def dW(H:List af)(ids:List Nat):Option (aI×List af)→Option Fin
 |some (.ret v,H1)=>
  if H.length≤H1.length then
   let cZ:=ids.map fun i=>(i,H1.getD i .dead)
   let n:=H.length
   if v.eR n&&cZ.all (fun p=>ry n p.2)then some (.ok {val:=v,cZ:=cZ})
   else some (.ok {val:=v,cZ:=cZ,news:=H1.drop n})
  else none
 |some (.aM v,_)=>if v.flat then some (.aM v ids)else none
 |none=>none
def kF(n:Nat)(H:List af):List af:=List.replicate n .dead++H.drop n
def uV(H:List af)(ids:List Nat):Option (aI×List af)→Option Fin
 |some (.ret v,H1)=>
  if H.length≤H1.length then
   if ids.all (fun i=>ry H.length (H1.getD i .dead))then match(snap fm v).run (kF H.length H1)with
    |some v'=>some (.ok {val:=v',cZ:=(ids.filter fun i=> !qz (H.getD i .dead) (H1.getD i .dead)).map fun i=>(i,H1.getD i .dead)})
    |none=>none
   else none
  else none
 |r=>dW H ids r
def finish[ax](orc:gF)(H:List af):Pre→Option Fin
 | .aT e=>some (.ok e)
 | .defer f args=>some (.defer f args)
 | .aM v=>some (.aM v [])
 | .tv f args own=>wN args fun args=>match orc.fn f args []with
  |some (.ret v,H1)=>match(snap fm v).run H1 with
   |some v'=>if own||v'.flat then some (.ok {val:=v'})else none
   |none=>none
  |some (.aM v,_)=>if v.flat then some (.aM v [])else none
  |none=>none
 | .gY f args ids=>wN args fun args=>pq (mask ids H) fun H0=>dW H ids (orc.fn f args H0)
 | .Au f args ids=>wN args fun args=>pq (mask ids H) fun H0=>uV H ids (orc.fn f args H0)
 | .round b args ids=>wN args fun args=>pq (mask ids H) fun H0=>dW H ids (orc.xE b args H0)
def fL(ops:Array Oper)(A:List AVal)(o:Oper):Option Bool:=
 match o.guard with
 |none=>some true
 |some (j,want)=>match(ops[j]?).bind (·.dst)with
  |none=>some false
  |some d=>match A[d]? with
   |some (.sc (.bool b))=>some (b==want)
   |some .aq=>none
   |_=>some false
inductive dw where
 |ok (s:St)
 |aM (v:AVal) (s:St)
structure eV where
 reads:List Nat
 writes:List Nat
def cut(n0 b:Nat):Nat:=if b<n0 then b else n0
def nY:Pre→Bool
 | .gY .. =>true
 | .Au .. =>true
 | .round .. =>true
 |_=>false
def eF(n0:Nat)(reads:List Nat)(p:Pre)(cZ:List Nat)(news:Bool):eV:=
 let w:=cZ.map (cut n0)++(if news then[n0]else[])
 ⟨reads.map (cut n0)++(if nY p then[n0]else[])++w,w⟩
def mE{α:Type}(A:List AVal)(d:Option Tmp)(v:AVal)(k:List AVal→α):α:=match d with
 |some d=>wO A d v k
 |none=>k A
def dx[ax](P:Program)(cfg:dV)(orc:gF)(ops:Array Oper)(n0:Nat)(o:Oper)(nid:Nat)(s:St):Option (dw×eV):=
 match fL ops s.A o with
 |none=>none
 |some false=>mE s.A o.dst nothing fun A=>some (.ok {s with A:=A},⟨[],[]⟩)
 |some true=>let rd:=bf P cfg nid (bQ s.A) o.op
  match rd.run s.H with
  |none=>none
  |some pre=>match finish orc s.H pre with
   |none=>none
   |some (.aM v ids)=>some (.aM v {s with H:=ids.foldl (fun H i=>H.set i .dead) s.H},eF n0 (rd.reads s.H) pre ids false)
   |some (.ok e)=>Cf e fun e=>mE s.A o.dst e.val fun A=>lP e s.H fun H=>
    some (.ok {s with A:=A,H:=H},eF n0 (rd.reads s.H) pre (e.cZ.map (·.1)) (!e.news.isEmpty))
   |some (.defer f args)=>mE s.A o.dst nothing fun A=>wN args fun args=>some (.ok {s with A:=A,D:=.call f args::s.D},⟨[],[]⟩)
def numbered:Nat→List Oper→List (Oper×Nat)
 |_,[]=>[]
 |n,o::os=>gD n fun n=>(o,n)::numbered (if cc o.op then n+1 else n) os
def iX(ops:List Oper):Nat:=(ops.filter fun o=>cc o.op).length
def hM[ax](P:Program)(cfg:dV)(orc:Nat→gF)(ops:Array Oper)(n0:Nat):Nat→List (Oper×Nat)→St→Option (dw×List eV)
 |_,[],s=>some (.ok s,[])
 |k,(o,nid)::rest,s=>match dx P cfg (orc k) ops n0 o nid s with
  |some (.ok s',f)=>match hM P cfg orc ops n0 (k+1) rest s' with
   |some (r,fs)=>some (r,f::fs)
   |none=>none
  |some (.aM v s',f)=>some (.aM v s',[f])
  |none=>none
def eV.apart(x y:eV):Bool:=
 x.writes.all (fun b=> !y.reads.contains b&& !y.writes.contains b)&&y.writes.all (fun b=> !x.reads.contains b)
def indep(ops:Array Oper)(ql:Array Nat)(feet:List eV):Bool:=
 feet.zipIdx.all fun(y,j)=>feet.zipIdx.all fun(x,i)=> !(decide (i<j))||(ql.getD j 0).testBit i||
  (x.apart y&&match ops[i]?,ops[j]? with |some oi,some oj=>Oper.apart ops oi oj |_,_=>false)
def qA(ops:Array Oper):Bool:=ops.toList.zipIdx.all fun(o,j)=>
 (match o.op with | .defer _=>false | .select .. =>false |_=>true)&&o.after.toList.all fun e=> !Region.binds .any e||decide (e.on<j)
def kY:List af→Nat
 | []=>0
 | .aR::bs=>if kY bs=bs.length then kY bs+1 else kY bs
 |_::bs=>kY bs
def oP[ax](P:Program)(cfg:dV)(orc:Nat→gF)(ops:Array Oper)(draw:Bool)(s:St):Option dw:=
 gD (iX ops.toList) fun c=>gD (if c=0 then 0 else kY s.H) fun t=>gD (c - t) fun m=>
 Ba s.H (List.replicate m .aR) fun H0=>
 let s0:St:={s with H:=H0}
 gD H0.length fun n0=>match hM P cfg orc ops n0 0 (numbered (s.H.length - t) ops.toList) s0 with
 |none=>none
 |some (r,feet)=>if !draw then some r else
  if qA ops&&feet.length==ops.size&&indep ops (CheckFast.beforeF ops) feet then
   match r with
   | .ok s'=>some (.ok s')
   | .aM v s'=>if feet.all (fun f=>f.writes.isEmpty)then some (.aM v {s' with A:=ops.toList.foldl (fun A o=>fG A o.dst .aq) s'.A})else none
  else none
def region[ax](P:Program)(cfg:dV)(orc:gF)(ops:Array Oper)(draw:Bool)(s:St):Option dw:=oP P cfg (fun _=>orc) ops draw s
inductive aS where
 |normal
 |exit (id:Nat)
 |ret
 |aM (v:AVal)
def iter{S:Type}(f:S→Option (aS×S)):Nat→S→Option (aS×S)
 | 0,_=>none
 |n+1,s=>match f s with
  |some (.normal,s')=>iter f n s'
  |r=>r
def forget(l:List Nat)(A:List AVal):List AVal:=l.foldl (fun A t=>A.set t .aq) A
def yd(ro:Option Nat)(fid:FuncId)(ps:Array Tmp)(assign body:Code)(s:St):Option (Nat×List af×List nG):=
 match ro with
 |none=>some (s.H.length+1,s.H++[.defs,.loop .ready none fid s.A ps.toList assign body],.mark s.H.length::s.D)
 |some b=>match s.H[b]? with
  |some (.loop ..)=>some (s.H.length,s.H++[.loop .ready none fid s.A ps.toList assign body],s.D)
  |_=>none
def Ek(l:Nat)(D:List nG)(s:St)(H:List af):Option (aS×St):=
 match H[l]? with
 |some (.loop st pend fid A ps assign body)=>
  if st=.busy then none else
  let s2:St:={s with H:=H.set l (.loop .exhausted pend fid A ps assign body),D:=D}
  match pend with
  |none=>some (.normal,s2)
  |some .ret=>some (.ret,s2)
  |some (.exit id)=>some (.exit id,s2)
  |_=>none
 |_=>none
def vZ[ax](orc:gF)(ro:Option Nat)(fid:FuncId)(f:AVal)(ps:Array Tmp)(assign body:Code)(s:St):Option (aS×St):=
 match f with
 | .fn (.func g) p q=>match yd ro fid ps assign body s with
  |some (l,H1,D1)=>fJ H1 fun H1=>match(closure 1000 (AVal.kg (p++[.gj l]++q)) []).run H1 with
   |some ids=>match finish orc H1 (.gY g (p++[.gj l]++q) ids)with
    |some (.ok e)=>Cf e fun e=>lP e H1 fun H2=>Ek l D1 s H2
    |some (.aM v ids)=>some (.aM v,{s with H:=ids.foldl (fun H i=>H.set i .dead) H1,D:=D1})
    |_=>none
   |none=>none
  |none=>none
 |_=>none
def v7(o:Oper):Bool:=match o.op with
 | .defer _=>true
 |_=>false
def exec[ax](P:Program)(cfg:dV)(orc:gF)(ro:Option Nat)(fid:FuncId)(n:Nat):Nat→Code→St→Option (aS×St)
 |_,.skip,s=>some (.normal,s)
 |_,.region _ ops draw,s=>if ro.isSome&&ops.toList.any v7 then none else match region P cfg orc ops draw s with
  |some (.ok s')=>some (.normal,s')
  |some (.aM v s')=>some (.aM v,s')
  |none=>none
 |_,.rangeFunc f ps assign body,s=>vZ orc ro fid (bQ s.A f) ps assign body s
 |cur,.seq a b,s=>match exec P cfg orc ro fid n cur a s with
  |some (.normal,s')=>exec P cfg orc ro fid n cur b s'
  |r=>r
 |cur,.cond c a b,s=>match bQ s.A c with
  | .sc (.bool true)=>exec P cfg orc ro fid n cur a s
  | .sc (.bool false)=>exec P cfg orc ro fid n cur b s
  |_=>none
 |_,.block id b,s=>match exec P cfg orc ro fid n id b s with
  |some (.exit id',s')=>if id'=id then some (.normal,s')else some (.exit id',s')
  |r=>r
 |cur,.loop b,s=>iter (fun s=>exec P cfg orc ro fid n cur b {s with A:=forget (cfg.kill fid cur) s.A}) n s
 |_,.exit id,s=>some (.exit id,s)
 |_,.ret,s=>some (.ret,s)
 |_,_,_=>none
def zb[ax](P:Program)(A:List AVal)(H:List af):ResultVar→Option AVal
 | .tmp t=>some (A.getD t nothing)
 | .cell t T=>match(wK P T (A.getD t nothing)).run H with
  |some e=>some e.val
  |none=>none
def qB[ax](P:Program)(A:List AVal)(H:List af):List ResultVar→Option (List AVal)
 | []=>some []
 |r::rs=>match zb P A H r,qB P A H rs with
  |some v,some vs=>some (v::vs)
  |_,_=>none
def tU:List AVal→AVal
 | [v]=>v
 |vs=>.bV vs
def iF(ntmps:Nat)(args:List AVal):List AVal:=fJ (args++List.replicate (ntmps - args.length) nothing) fun A=>A
def kG:Code→Option (Option Tmp×Code)
 | .region _ ops false=>match ops.toList with
  | [o]=>match o.op,o.guard with
   | .call {callee:=.builtin .recover,.. },none=>some (o.dst,.skip)
   |_,_=>none
  |_=>none
 | .seq a b=>match kG a with
  |some (d,a')=>some (d,.seq a' b)
  |none=>none
 |_=>none
def deferred[ax](P:Program)(cfg:dV)(orc:gF)(n:Nat)(f:FuncId)(args:List AVal)(m:Option AVal)(H:List af):Option (Bool×List af):=
 match P.funcs[f]? with
 |some fn=>match fn.body with
  |some c=>match kG c with
   |some (d,rest)=>match exec P cfg orc none f n 0 rest ⟨fG (iF fn.ntmps args) d (m.getD (.sc .nilIface)),H,[]⟩with
    |some (.normal,s) |some (.ret,s)=>if s.D.isEmpty&&fn.results.isEmpty then some (m.isSome,s.H)else none
    |_=>none
   |none=>none
  |none=>none
 |none=>none
def leave[ax](P:Program)(cfg:dV)(orc:gF)(n:Nat):List nG→Option AVal→List af→Option (Option AVal×List af)
 | [],m,H=>some (m,H)
 | .call f args::ds,m,H=>match deferred P cfg orc n f args m H with
  |some (b,H')=>leave P cfg orc n ds (if b then none else m) H'
  |none=>none
 | .mark b::ds,m,H=>match H[b]? with
  |some .defs=>leave P cfg orc n ds m (H.set b .dead)
  |_=>none
def ending[ax](P:Program)(fn:Func)(A:List AVal):Option AVal→List af→Option (aI×List af)
 |some v,H=>some (.aM v,H)
 |none,H=>match qB P A H fn.results.toList with
  |some vs=>some (.ret (tU vs),H)
  |none=>none
def Bc[ax](P:Program)(cfg:dV)(orc:gF)(n:Nat)(f:FuncId)(args:List AVal)(H:List af):Option (aI×List af):=
 match P.funcs[f]? with
  |some fn=>match fn.body with
   |some c=>match exec P cfg orc none f n 0 c ⟨iF fn.ntmps args,H,[]⟩with
    |some (.normal,s) |some (.ret,s)=>match leave P cfg orc n s.D none s.H with
     |some (m,H')=>ending P fn s.A m H'
     |none=>none
    |some (.aM v,s)=>match leave P cfg orc n s.D (some v) s.H with
     |some (m,H')=>ending P fn s.A m H'
     |none=>none
    |_=>none
   |none=>none
  |none=>none
def mF:aS→Option (Option Code)
 | .normal=>some none
 | .ret=>some (some .ret)
 | .exit id=>some (some (.exit id))
 | .aM _=>none
def nZ:List AVal→List Tmp→List AVal→List AVal
 |A,t::ts,a::as=>wO A t a fun A=>nZ A ts as
 |A,_,_=>A
def marked(b:Nat)(st:LoopState)(pend:Option Code)(H:List af):Option (List af):=
 match H[b]? with
 |some (.loop _ _ fid A ps assign body)=>some (H.set b (.loop st pend fid A ps assign body))
 |_=>none
def roundOf[ax](P:Program)(cfg:dV)(orc:gF)(n:Nat)(b:Nat)(args:List AVal)(H:List af):Option (aI×List af):=
 match H[b]? with
 |some (.loop _ _ fid A ps assign body)=>
  if ps.length=args.length then
   match exec P cfg orc (some b) fid n 0 assign ⟨nZ A ps args,H,[]⟩with
   |some (.normal,s1)=>match s1.H[b]? with
    |some (.loop .ready pend1 fid1 A1 ps1 as1 bd1)=>
     fJ (s1.H.set b (.loop .busy pend1 fid1 A1 ps1 as1 bd1)) fun H1=>
     match exec P cfg orc (some b) fid n 0 body {s1 with H:=H1}with
     |some (out,s2)=>match mF out with
      |some j=>match marked b (if j.isNone then .ready else .done) j s2.H with
       |some H2=>some (.ret (.sc (.bool j.isNone)),H2)
       |none=>none
      |none=>none
     |none=>none
    |_=>none
   |_=>none
  else none
 |_=>none
def call[ax](P:Program)(cfg:dV):Nat→gF
 | 0=>⟨fun _ _ _=>none,fun _ _ _=>none⟩
 |n+1=>⟨Bc P cfg (call P cfg n) n,roundOf P cfg (call P cfg n) n⟩
end Go.AM
end
section
namespace Go.AM
section
variable [ax] {P:Program} {a:Act} {o:Oper} {g:Gh} {H:List af} {w:World} {ai:Operand→AVal}
theorem s7(n:Nat){T t:Nat}{y:Value}{ms:Array (String×TypeId)}(hu:P.underlying T=some (.interface ms)):(Op.equalIn (n+1) T (.iface t y) .nilIface).run P w=.ok false w:=by
 simp only[Op.equalIn,Sem.run_bind,run_underlying hu,Result.andThen_ok,Sem.run_pure]
theorem uW(n:Nat){T:Nat}{ms:Array (String×TypeId)}(hu:P.underlying T=some (.interface ms)):(Op.equalIn (n+1) T .nilIface .nilIface).run P w=.ok true w:=by
 simp only[Op.equalIn,Sem.run_bind,run_underlying hu,Result.andThen_ok,Sem.run_pure]
theorem uX{op:BinOp}{T:Nat}{x y:Value}{b:Bool}(h:(Op.equalIn 10000 T x y).run P w=.ok b w)(hx:(∃t u,x=.iface t u)∨x=.nilIface)(hy:y=.nilIface):
 (op=.eql→(binOp op T x y).run P w=.ok (.bool b) w)∧(op=.neq→(binOp op T x y).run P w=.ok (.bool !b) w):=by
 subst hy;refine⟨?_,?_⟩<;>rintro rfl<;>rcases hx with⟨t,u,rfl⟩ |rfl<;>simp only[binOp,Op.equal,Op.maxDepth,Sem.run_bind,h,Result.andThen_ok,Sem.run_pure]
theorem Dz{op:BinOp}{T:Nat}{x:Operand}{u:Value}(hu:(∃t y,u=.iface t y)∨u=.nilIface):(eqGuard op T x (.const .nilIface) u .nilIface).run P w=.ok () w:=by
 rcases hu with⟨t,y,rfl⟩ |rfl
 ·cases op<;>rfl
 ·cases op<;>cases x<;>rfl
theorem HQ{op:BinOp}{T yT:Nat}{x:Operand}{v:AVal}(hi:Inv g H w)(hρ:∀x,R g w (ai x) (a.eval x))(ho:o.op=.binOp op T x (.const .nilIface) yT)(h:D7 P op T (ai x)=some v):bD P a o g H w {val:=v}:=by
 have hx:=hρ x;have fin:∀(b:Bool),((∃t y,a.eval x=.iface t y)∨a.eval x=.nilIface)→(binOp op T (a.eval x) .nilIface).run P w=.ok (.bool b) w→bD P a o g H w {val:=.sc (.bool b)}:=by
  intro b hu hr;refine bD.pure hi (v:=.bool b) ?_ (by simp[R])
  have e:a.eval (.const .nilIface)=.nilIface:=rfl;simp only[execOp,ho,e,Sem.run_bind,Dz hu,Result.andThen_ok,hr,Sem.run_pure]
 unfold D7 at h;split at h
 ·rename_i ms hu;split at h<;>simp at h
  all_goals (rename_i e;subst h)
  ·rw[e]at hx;simp only[R]at hx;obtain⟨y,hx,_⟩:=hx;exact fin false (.inl ⟨_,_,hx⟩) (by grind [uX,s7])
  ·rw[e]at hx;simp only[R]at hx;obtain⟨y,hx,_⟩:=hx;exact fin true (.inl ⟨_,_,hx⟩) (by grind [uX,s7])
  ·grind [eC,uX,uW]
  grind [eC,uX,uW]
 ·cases h
theorem Bd{x:AVal}{v:Value}{b:Bool}(h:Gr x=some b)(hr:R g w x v):∃a n c,v=.slice a n c∧a.isNone=b:=by
 unfold Gr at h;grind [eC,R]
theorem DA{y:Operand}(h:qw y=true):y=.const (.slice none 0 0):=by
 grind [qw]
theorem s9(n:Nat){T e:Nat}{a':Option Addr}{m c:Nat}(hu:P.underlying T=some (.slice e)):(Op.equalIn (n+1) T (.slice a' m c) (.slice none 0 0)).run P w=.ok a'.isNone w:=by
 cases a'<;>simp only[Op.equalIn,Sem.run_bind,run_underlying hu,Result.andThen_ok,Sem.run_pure,Option.isNone]
theorem Be{op:BinOp}{T:Nat}{a':Option Addr}{m c:Nat}{b:Bool}(h:(Op.equalIn 10000 T (.slice a' m c) (.slice none 0 0)).run P w=.ok b w):
 (op=.eql→(binOp op T (.slice a' m c) (.slice none 0 0)).run P w=.ok (.bool b) w)∧(op=.neq→(binOp op T (.slice a' m c) (.slice none 0 0)).run P w=.ok (.bool !b) w):=by
 refine⟨?_,?_⟩<;>rintro rfl<;>simp only[binOp,Op.equal,Op.maxDepth,Sem.run_bind,h,Result.andThen_ok,Sem.run_pure]
theorem Em{op:BinOp}{T:Nat}{x:Operand}{a':Option Addr}{m c:Nat}(hop:op=.eql∨op=.neq):(eqGuard op T x (.const (.slice none 0 0)) (.slice a' m c) (.slice none 0 0)).run P w=.ok () w:=by
 rcases hop with rfl |rfl<;>cases x<;>rfl
theorem GF{op:BinOp}{T yT:Nat}{x:Operand}{v:AVal}(hi:Inv g H w)(hρ:∀x,R g w (ai x) (a.eval x))(ho:o.op=.binOp op T x (.const (.slice none 0 0)) yT)(h:y7 P op T (ai x)=some v):bD P a o g H w {val:=v}:=by
 have hx:=hρ x;have e0:a.eval (.const (.slice none 0 0))=.slice none 0 0:=rfl;unfold y7 at h;split at h
 ·rename_i e hu;split at h
  ·rename_i b hb;simp only[Option.some.injEq]at h;subst h;obtain⟨a',n,c,hv,rfl⟩:=Bd hb hx;refine bD.pure hi (v:=.bool a'.isNone) ?_ (by simp[R])
   simp only[execOp,ho,e0,hv,Sem.run_bind,Em (.inl rfl),Result.andThen_ok,(Be (s9 9999 hu)).1 rfl,Sem.run_pure]
  ·rename_i b hb;simp only[Option.some.injEq]at h;subst h;obtain⟨a',n,c,hv,rfl⟩:=Bd hb hx;refine bD.pure hi (v:=.bool !a'.isNone) ?_ (by simp[R])
   simp only[execOp,ho,e0,hv,Sem.run_bind,Em (.inr rfl),Result.andThen_ok,(Be (s9 9999 hu)).2 rfl,Sem.run_pure]
  ·cases h
 ·cases h
theorem Cg{x:Operand}{xT T:Nat}{ok:Bool}{v:AVal}(hi:Inv g H w)(hρ:∀x,R g w (ai x) (a.eval x))(ho:o.op=.typeAssert x xT T ok)(h:vn P T ok (ai x)=some v):bD P a o g H w {val:=v}:=by
 have hx:=hρ x;have ni:∀{d},P.underlying T=some d→(∀ms,d≠ .interface ms)→True:=fun _ _=>trivial
 unfold vn at h;split at h
 ·cases h
 ·cases h
 ·rename_i d hd hu;have hz:∀{z},wL P T=some z→∃y,(zeroValue T).run P w=.ok y w∧R g w z y:=fun hz=>Bb hz
  split at h
  ·rename_i t u e;rw[e]at hx;simp only[R]at hx;obtain⟨y,hx,hr⟩:=hx;split at h
   ·rename_i ht;subst ht;cases ok
    ·simp at h;subst h;exact bD.pure hi (v:=y) (by cases d<;>simp[execOp,ho,hx,Instr.typeAssert,run_underlying hu]<;>simp_all) hr
    ·simp at h;subst h;refine bD.pure hi (v:=.tuple #[y,.bool true]) (by cases d<;>simp[execOp,ho,hx,Instr.typeAssert,run_underlying hu]<;>simp_all) ?_
     grind [R,RL]
   ·rename_i ht;cases ok
    ·simp at h
    ·simp at h;obtain⟨z,hz1,rfl⟩:=h;obtain⟨zv,z1,z2⟩:=hz hz1;refine bD.pure hi (v:=.tuple #[zv,.bool false]) (by cases d<;>simp[execOp,ho,hx,Instr.typeAssert,run_underlying hu,ht,z1]<;>simp_all) ?_
     grind [R,RL]
  ·rename_i e;rw[e]at hx;have hx:=eC hx;cases ok
   ·simp at h
   ·simp at h;obtain⟨z,hz1,rfl⟩:=h;obtain⟨zv,z1,z2⟩:=hz hz1;refine bD.pure hi (v:=.tuple #[zv,.bool false]) (by cases d<;>simp[execOp,ho,hx,Instr.typeAssert,run_underlying hu,z1]<;>simp_all) ?_
    grind [R,RL]
  ·cases h
theorem Kk{nid:Nat}{aT:cF}(hi:Inv g H w)(hρ:∀x,R g w (ai x) (a.eval x))(hn:cc o.op=true→H[nid]? =some .aR)(h:(bN P nid ai o.op).run H=some aT):bD P a o g H w aT:=by
 cases ho:o.op
 case move x=>simp[ho,bN,Rd.run]at h;subst h;exact Ea hi hρ (.inl ho)
 case assign x=>simp[ho,bN,Rd.run]at h;subst h;exact Ea hi hρ (.inr ho)
 case pick c x y=>
  simp only[ho,bN]at h;split at h
  ·rename_i t hc;simp[Rd.run]at h;subst h;exact IL hi hρ ho hc
  ·simp[Rd.run]at h
 case alloc T=>
  grind [bN,Rd.run,Gs,HA,cc,ru]
 case box T x=>simp only[ho,bN]at h;exact HB hi hρ (hn (by simp[ho,cc])) ho (ru h)
 case build T parts=>simp only[ho,bN]at h;obtain⟨v,hv,rfl⟩:=cm h;exact HM hi hρ ho hv
 case buildSlice T len parts=>simp only[ho,bN]at h;exact Ce hi hρ (hn (by simp[ho,cc])) ho (ru h)
 case load T x=>simp only[ho,bN]at h;exact IM hi hρ ho h
 case store T x y=>simp only[ho,bN]at h;exact HD hi hρ ho h
 case nilCheck x=>
  simp only[ho,bN]at h;split at h<;>simp[Rd.run]at h
  ·rename_i e;subst h;rw[← e];exact pg hi hρ ho rfl (.inl ⟨_,_,_,_,e⟩)
  ·rename_i e;subst h;rw[← e];exact pg hi hρ ho rfl (.inr (.inl ⟨_,_,e⟩))
  ·rename_i e;subst h;rw[← e];exact pg hi hρ ho rfl (.inr (.inr (.inl ⟨_,_,e⟩)))
  ·rename_i e;subst h;rw[← e];exact pg hi hρ ho rfl (.inr (.inr (.inr ⟨_,_,_,e⟩)))
 case binOp op T x y yT=>
  by_cases hc:y=.const .nilIface
  ·subst hc;simp only[ho,bN]at h;obtain⟨v,hv,rfl⟩:=cm h;exact HQ hi hρ ho hv
  ·have:bN P nid ai o.op=if qw y then yields (y7 P op T (ai x))else yields (B8 P op T (ai x) (ai y)):=by
    rw[ho];cases y with
    |const v=>cases v<;>first |rfl |exact absurd rfl hc
    |_=>rfl
   rw[this]at h;split at h
   ·rename_i hn;obtain⟨v,hv,rfl⟩:=cm h;exact GF hi hρ (DA hn▸ho) hv
   ·obtain⟨v,hv,rfl⟩:=cm h;exact HG hi hρ ho hv
 case typeAssert x xT T ok=>
  simp only[ho,bN]at h;obtain⟨v,hv,rfl⟩:=cm h;exact Cg hi hρ ho hv
 case unOp op T x=>simp only[ho,bN]at h;obtain⟨v,hv,rfl⟩:=cm h;exact IQ hi hρ ho hv
 case convert s d x=>
  simp only[ho,bN]at h;split at h
  ·rename_i hb;obtain⟨rows,h1,h2⟩:=bind_some h;split at h2
   ·rename_i xs hx;simp[Rd.run]at h2;subst h2;exact Fz hi hρ ho hb h1 hx
   ·simp[Rd.run]at h2
  ·obtain⟨v,hv,rfl⟩:=cm h;exact Fw hi hρ ho hv
 case makeInterface T x=>
  simp only[ho,bN]at h;split at h<;>simp[Rd.run]at h
  rename_i hn1 hu;subst h;exact zF hi hρ ho (by simp[hu]) (fun ms hm=>by grind)
 case makeFunc f x y=>grind [bN,Rd.run,Ec]
 case makeMap T r=>
  cases r with
  |none=>
   simp only[ho,bN]at h;split at h<;>simp[Rd.run]at h
   rename_i K E hu;subst h;exact zQ hi hρ (hn (by simp[ho,cc])) ho ⟨K,E,hu⟩ (by simp)
  |some x=>
   simp only[ho,bN]at h;split at h<;>simp[Rd.run]at h
   rename_i K E q n hu hq;subst h;exact zQ hi hρ (hn (by simp[ho,cc])) ho ⟨K,E,hu⟩ (by grind)
 case makeSlice T l c=>simp only[ho,bN]at h;exact Dx hi hρ (hn (by simp[ho,cc])) ho (ru h)
 case slice T x lo hi' mx=>
  cases mx with
  |none=>grind [bN,cm,HL]
  |some m=>grind [bN,cm,Gt]
 case sliceToArrayPointer T x=>simp only[ho,bN]at h;obtain⟨v,hv,rfl⟩:=cm h;exact HN hi hρ ho hv
 case fieldAddr T x f=>
  simp only[ho,bN]at h;split at h
  ·rename_i fd hf;split at h
   ·rename_i n hs;obtain⟨v,hv,rfl⟩:=cm h;exact Dv hi hρ ho hf hs hv
   ·simp[Rd.run]at h
  ·simp[Rd.run]at h
 case field T x f=>
  simp only[ho,bN]at h;split at h
  ·rename_i fd cs hf hx;obtain⟨v,hv,rfl⟩:=cm h;exact HH hi hρ ho hf hx hv
  ·simp[Rd.run]at h
 case indexAddr T x ix=>
  simp only[ho,bN]at h;split at h
  ·rename_i q n hn';obtain⟨v,hv,rfl⟩:=cm h;exact Dw hi hρ ho hn' hv
  ·simp[Rd.run]at h
 case index T x ix=>
  simp only[ho,bN]at h;split at h
  ·rename_i q n hn';obtain⟨v,hv,rfl⟩:=cm h;exact HK hi hρ ho hn' hv
  ·simp[Rd.run]at h
 case lookup T x k ok=>simp only[ho,bN]at h;exact GC hi hρ ho h
 case mapUpdate T m k x=>simp only[ho,bN]at h;exact xD hi hρ (.inl ho) h
 case insert T m k x=>simp only[ho,bN]at h;exact xD hi hρ (.inr ho) h
 case range T x=>simp only[ho,bN]at h;exact Ej hi hρ (hn (by simp[ho,cc])) ho h
 case entry x=>simp only[ho,bN]at h;exact HP hi hρ ho h
 case extract x i=>
  simp only[ho,bN]at h;split at h
  ·rename_i cs hx;obtain⟨v,hv,rfl⟩:=cm h;exact Fx hi hρ ho hx hv
  ·simp[Rd.run]at h
 case call c=>
  obtain⟨ce,args,ats⟩:=c;cases ce with
  |value f=>simp[ho,bN,Rd.run]at h
  |invoke r m=>simp[ho,bN,Rd.run]at h
  |builtin b=>
   cases b
   case len=>
    simp only[ho,bN]at h;split at h
    ·rename_i T x h0 h1;split at h
     ·rename_i K E q hu;exact GD hi hρ ho h0 h1 hu h
     ·rename_i n hu hl;split at h<;>simp[Rd.run]at h
      rename_i hs;subst h;exact F1 hi hρ ho h0 h1 hl (.inl ⟨hu,_,hs⟩)
     ·rename_i e n hu hl;split at h<;>simp[Rd.run]at h
      rename_i hs;subst h;refine F1 hi hρ ho h0 h1 hl (.inr ⟨⟨e,hu⟩,fun s hx=>?_⟩)
      exact hs s hx
     ·simp[Rd.run]at h
    ·simp[Rd.run]at h
   case append=>
    simp only[ho,bN]at h;split at h
    ·rename_i ST XT s x h0 h1 h2 h3;split at h
     ·rename_i hsz;exact Gu hi hρ (hn (by simp[ho,cc])) ho h0 h1 h2 h3 hsz h
     ·simp[Rd.run]at h
    ·simp[Rd.run]at h
   case copy=>
    simp only[ho,bN]at h;split at h
    ·rename_i DT d x h0 h1 h2;exact IV hi hρ ho h0 h1 h2 h
    ·simp[Rd.run]at h
   case clear=>
    simp only[ho,bN]at h;split at h
    ·rename_i T x h0 h1;split at h
     ·exact HO hi hρ ho h0 h1 h
     ·simp[Rd.run]at h
    ·simp[Rd.run]at h
   case min=>
    simp only[ho,bN]at h;split at h
    ·rename_i x y h0 h1;split at h
     ·rename_i hsz;obtain⟨v,hv,rfl⟩:=cm h;exact Ke hi hρ ho h0 h1 hsz hv
     ·simp[Rd.run]at h
    ·simp[Rd.run]at h
   all_goals (simp[ho,bN,Rd.run]at h)
 all_goals (simp[ho,bN,Rd.run]at h)
end
end Go.AM
end
section
namespace Go.AM
section
variable [ax] {g g2:Gh} {w w2:World}
mutual
theorem gP(hst:∀k o,g.st k o→g2.st k o):∀(v:AVal) (x:Value),v.pure=true→R g w v x→R g2 w v x
 | .sc _,x,_,hr=>by simpa[R]using hr
 | .agg cs,x,hp,hr=>by
  simp only[R,AVal.pure]at hr hp ⊢;obtain⟨vs,e,h1,hl⟩:=hr;exact⟨vs,e,h1,jt hst cs vs hp hl⟩
 | .bV cs,x,hp,hr=>by
  simp only[R,AVal.pure]at hr hp ⊢;obtain⟨vs,e,hl⟩:=hr;exact⟨vs,e,jt hst cs vs hp hl⟩
 | .ptr b ak i o,x,hp,_=>by simp[AVal.pure]at hp
 | .bp cs o,x,_,hr=>by
  simp only[R]at hr ⊢;obtain⟨k,off,e,hp,hc⟩:=hr;exact⟨k,off,e,hp,gI hst cs k off hp hc⟩
 | .sl b ak sz o n,x,hp,_=>by simp[AVal.pure]at hp
 | .aD rows,x,_,hr=>by
  simp only[R]at hr ⊢;obtain⟨a,cap,e,hle,hr⟩:=hr;refine⟨a,cap,e,hle,?_⟩;rcases hr with h0 |⟨k,off,sz,ha,hc⟩
  ·exact .inl h0
  ·exact .inr ⟨k,off,sz,ha,zc hst rows k off sz hc⟩
 | .fn f a b,x,hp,hr=>by
  simp only[R,AVal.pure,Bool.and_eq_true]at hr hp ⊢;obtain⟨va,vb,e,h1,h2⟩:=hr;exact⟨va,vb,e,jt hst a va hp.1 h1,jt hst b vb hp.2 h2⟩
 | .ei t v,x,hp,hr=>by
  simp only[R,AVal.pure]at hr hp ⊢;obtain⟨y,e,h1⟩:=hr;exact⟨y,e,gP hst v y hp h1⟩
 | .mp b,x,hp,_=>by simp[AVal.pure]at hp
 | .gj b,x,hp,_=>by simp[AVal.pure]at hp
 | .sa ..,x,hp,_=>by simp[AVal.pure]at hp
 | .eU i o,x,_,hr=>by simpa[R]using hr
 | .emp,x,_,hr=>by simpa[R]using hr
 | .nz _,x,_,hr=>by simpa[R]using hr
 | .aq,x,_,_=>by simp[R]
theorem jt(hst:∀k o,g.st k o→g2.st k o):∀(v:List AVal) (x:List Value),AVal.aO v=true→RL g w v x→RL g2 w v x
 | [],x,_,hr=>by simpa[RL]using hr
 |a::as,x,hp,hr=>by
  simp only[RL,AVal.aO,Bool.and_eq_true]at hr hp ⊢;obtain⟨y,ys,e,h1,h2⟩:=hr;exact⟨y,ys,e,gP hst a y hp.1 h1,jt hst as ys hp.2 h2⟩
theorem gI(hst:∀k o,g.st k o→g2.st k o):∀(v:List AVal) (k o:Nat),AVal.aO v=true→RC g w v k o→RC g2 w v k o
 | [],_,_,_,_=>by simp[RC]
 |a::as,k,o,hp,hr=>by
  simp only[RC,AVal.aO,Bool.and_eq_true]at hr hp ⊢;obtain⟨⟨hs,y,hy,ho,hr1⟩,h2⟩:=hr;exact⟨⟨hst _ _ hs,y,hy,ho,gP hst a y hp.1 hr1⟩,gI hst as k (o+1) hp.2 h2⟩
theorem zc(hst:∀k o,g.st k o→g2.st k o):∀(v:List (List AVal)) (k o sz:Nat),RR g w v k o sz→RR g2 w v k o sz
 | [],_,_,_,_=>by simp[RR]
 |r::rs,k,o,sz,hr=>by
  simp only[RR]at hr ⊢;obtain⟨⟨hs,hp,hr1⟩,h2⟩:=hr;exact⟨⟨hs,hp,gI hst r k o hp hr1⟩,zc hst rs k (o+sz) sz h2⟩
end
mutual
theorem hU:∀(v:AVal) (x:Value),v.flat=true→R g w v x→R g2 w2 v x
 | .sc _,x,_,hr=>by simpa[R]using hr
 | .agg cs,x,hp,hr=>by
  simp only[R,AVal.flat]at hr hp ⊢;obtain⟨vs,e,h1,hl⟩:=hr;exact⟨vs,e,h1,v8 cs vs hp hl⟩
 | .bV cs,x,hp,hr=>by
  simp only[R,AVal.flat]at hr hp ⊢;obtain⟨vs,e,hl⟩:=hr;exact⟨vs,e,v8 cs vs hp hl⟩
 | .ptr b ak i o,x,hp,_=>by simp[AVal.flat]at hp
 | .bp cs o,x,hp,_=>by simp[AVal.flat]at hp
 | .sl b ak sz o n,x,hp,_=>by simp[AVal.flat]at hp
 | .aD rows,x,hp,_=>by simp[AVal.flat]at hp
 | .fn f a b,x,hp,hr=>by
  simp only[R,AVal.flat,Bool.and_eq_true]at hr hp ⊢;obtain⟨va,vb,e,h1,h2⟩:=hr;exact⟨va,vb,e,v8 a va hp.1 h1,v8 b vb hp.2 h2⟩
 | .ei t v,x,hp,hr=>by
  simp only[R,AVal.flat]at hr hp ⊢;obtain⟨y,e,h1⟩:=hr;exact⟨y,e,hU v y hp h1⟩
 | .mp b,x,hp,_=>by simp[AVal.flat]at hp
 | .gj b,x,hp,_=>by simp[AVal.flat]at hp
 | .sa ..,x,hp,_=>by simp[AVal.flat]at hp
 | .eU i o,x,_,hr=>by simpa[R]using hr
 | .emp,x,_,hr=>by simpa[R]using hr
 | .nz _,x,_,hr=>by simpa[R]using hr
 | .aq,x,_,_=>by simp[R]
theorem v8:∀(v:List AVal) (x:List Value),AVal.tu v=true→RL g w v x→RL g2 w2 v x
 | [],x,_,hr=>by simpa[RL]using hr
 |a::as,x,hp,hr=>by
  simp only[RL,AVal.tu,Bool.and_eq_true]at hr hp ⊢;obtain⟨y,ys,e,h1,h2⟩:=hr;exact⟨y,ys,e,hU a y hp.1 h1,v8 as ys hp.2 h2⟩
end
mutual
theorem jD{n:Nat}(hst:∀k o,g.st k o→g2.st k o)(hrho:∀b ak x,b<n→g.ai b ak=some x→g2.ai b ak=some x):∀(v:AVal) (x:Value),v.eR n=true→R g w v x→R g2 w v x
 | .sc _,x,_,hr=>by simpa[R]using hr
 | .agg cs,x,hp,hr=>by
  simp only[R,AVal.eR]at hr hp ⊢;obtain⟨vs,e,h1,hl⟩:=hr;exact⟨vs,e,h1,jM hst hrho cs vs hp hl⟩
 | .bV cs,x,hp,hr=>by
  simp only[R,AVal.eR]at hr hp ⊢;obtain⟨vs,e,hl⟩:=hr;exact⟨vs,e,jM hst hrho cs vs hp hl⟩
 | .ptr b ak i o,x,hp,hr=>by
  grind [R,AVal.eR]
 | .bp cs o,x,_,hr=>by
  grind [R,gI]
 | .sl b ak sz o n',x,hp,hr=>by
  grind [R,AVal.eR]
 | .aD rows,x,_,hr=>by
  simp only[R]at hr ⊢;obtain⟨a,cap,e,hle,hr⟩:=hr;refine⟨a,cap,e,hle,?_⟩;rcases hr with h0 |⟨k,off,sz,ha,hc⟩
  ·exact .inl h0
  ·exact .inr ⟨k,off,sz,ha,zc hst rows k off sz hc⟩
 | .fn f a b,x,hp,hr=>by
  simp only[R,AVal.eR,Bool.and_eq_true]at hr hp ⊢;obtain⟨va,vb,e,h1,h2⟩:=hr;exact⟨va,vb,e,jM hst hrho a va hp.1 h1,jM hst hrho b vb hp.2 h2⟩
 | .ei t v,x,hp,hr=>by
  simp only[R,AVal.eR]at hr hp ⊢;obtain⟨y,e,h1⟩:=hr;exact⟨y,e,jD hst hrho v y hp h1⟩
 | .mp b,x,hp,hr=>by
  grind [R,AVal.eR]
 | .gj b,x,hp,hr=>by
  grind [R,AVal.eR]
 | .sa b ak i o s m,x,hp,hr=>by
  grind [R,AVal.eR]
 | .eU i o,x,_,hr=>by simpa[R]using hr
 | .emp,x,_,hr=>by simpa[R]using hr
 | .nz _,x,_,hr=>by simpa[R]using hr
 | .aq,x,_,_=>by simp[R]
theorem jM{n:Nat}(hst:∀k o,g.st k o→g2.st k o)(hrho:∀b ak x,b<n→g.ai b ak=some x→g2.ai b ak=some x):∀(v:List AVal) (x:List Value),AVal.ku n v=true→RL g w v x→RL g2 w v x
 | [],x,_,hr=>by simpa[RL]using hr
 |a::as,x,hp,hr=>by
  simp only[RL,AVal.ku,Bool.and_eq_true]at hr hp ⊢;obtain⟨y,ys,e,h1,h2⟩:=hr;exact⟨y,ys,e,jD hst hrho a y hp.1 h1,jM hst hrho as ys hp.2 h2⟩
end
def gy(g:Gh)(H:List af):Gh:={ai:=fun _ _=>none,st:=fun k o=>g.st k o∨eD g H k}
theorem nk{H:List af}{f:AVal→Rd AVal}:∀{l l':List AVal},(gE f l).run H=some l'→l'.length=l.length∧∀(i:Nat) (x:AVal),l[i]? =some x→∃y,l'[i]? =some y∧(f x).run H=some y
 | [],l',h=>by grind [gE,Rd.run]
 |a::as,l',h=>by
  simp only[gE]at h;obtain⟨y,h1,h⟩:=bind_some h;obtain⟨ys,h2,h⟩:=bind_some h;simp[Rd.run]at h;subst h;obtain⟨i1,i2⟩:=nk h2;grind
theorem ye{H:List af}{f:AVal→Rd AVal}:∀{l l':List (List AVal)},(vY f l).run H=some l'→l'.length=l.length∧∀(i:Nat) (x:List AVal),l[i]? =some x→∃y,l'[i]? =some y∧(gE f x).run H=some y
 | [],l',h=>by grind [vY,Rd.run]
 |a::as,l',h=>by
  simp only[vY]at h;obtain⟨y,h1,h⟩:=bind_some h;obtain⟨ys,h2,h⟩:=bind_some h;simp[Rd.run]at h;subst h;obtain⟨i1,i2⟩:=ye h2;grind
theorem wP{l:List AVal}(h:∀(i:Nat) (x:AVal),l[i]? =some x→x.pure=true):AVal.aO l=true:=by
 induction l with
 |nil=>rfl
 |cons a as ih=>
  simp only[AVal.aO,Bool.and_eq_true];exact⟨h 0 a (by simp),ih fun i x hx=>h (i+1) x (by simpa using hx)⟩
theorem rz{k:Nat}:∀{l:List AVal} {o:Nat},(∀(i:Nat) (x:AVal),l[i]? =some x→g.st k (o+i)∧∃y,w.cell? ⟨k,o+i,none⟩=some y∧y.oneCell'=true∧R g w x y)→RC g w l k o
 | [],_,_=>by simp[RC]
 |a::as,o,h=>by
  simp only[RC];refine⟨by simpa using h 0 a (by simp),rz fun i x hx=>?_⟩
  have:=h (i+1) x (by simpa using hx)
  grind
theorem wQ{k sz:Nat}:∀{l:List (List AVal)} {o:Nat},(∀(i:Nat) (r:List AVal),l[i]? =some r→r.length=sz∧AVal.aO r=true∧RC g w r k (o+i*sz))→RR g w l k o sz
 | [],_,_=>by simp[RR]
 |a::as,o,h=>by
  simp only[RR];refine⟨by simpa using h 0 a (by simp),wQ fun i x hx=>?_⟩
  have:=h (i+1) x (by simpa using hx)
  grind
theorem kZ{H:List af}(hi:Inv g H w):∀(n:Nat) (v v':AVal) (x:Value),(snap n v).run H=some v'→R g w v x→R (gy g H) w v' x∧v'.pure=true
 | 0,v,v',x,h,_=>by simp[snap,Rd.run]at h
 |n+1,v,v',x,h,hr=>by
  have ih:=kZ hi n;have ihL:∀(l l':List AVal) (vs:List Value),(gE (snap n) l).run H=some l'→RL g w l vs→RL (gy g H) w l' vs∧AVal.aO l'=true:=by
   intro l l' vs hm hl;obtain⟨m1,m2⟩:=nk hm;obtain⟨r1,r2⟩:=cK _ _ hl;have each:∀(i:Nat) (y:AVal),l'[i]? =some y→∃u,vs[i]? =some u∧R (gy g H) w y u∧y.pure=true:=by
    intro i y hy;have hlt:i<l.length:=by have:=(List.getElem?_eq_some_iff.1 hy).1;omega
    obtain⟨y',h1,h2⟩:=m2 i l[i] (by simp[hlt])
    rw[hy]at h1;cases h1;obtain⟨u,h3,h4⟩:=r2 i l[i] (by simp[hlt])
    exact⟨u,h3,ih _ _ _ h2 h4⟩
   refine⟨o7 _ _ (by omega) fun i y u hy hu=>?_,wP fun i y hy=>?_⟩
   ·grind
   ·grind
  have hstF:∀k o,g.st k o→(gy g H).st k o:=fun k o h=>.inl h
  unfold snap at h;split at h
  ·grind [Rd.run,gP]
  ·rename_i hnp;have cells:∀{b ak sz i k:Nat} {rows:List (List AVal)} {r r':List AVal} {c:Array Value} {e:TypeId},H[b]? =some (.row ak sz rows)→g.ai b ak=some (k,sz)→w.heap[k]? =some (.cells c e (0,0))→ez g w c sz rows 0→rows[i]? =some r→
    (gE (snap n) r).run H=some r'→r'.length=sz∧AVal.aO r'=true∧RC (gy g H) w r' k (i*sz):=by
    intro b ak sz i k rows r r' c e hb hk hh hrows hri hm;obtain⟨q1,q2⟩:=bR _ _ _ _ hrows hri;obtain⟨m1,m2⟩:=nk hm;have each:∀(j:Nat) (y:AVal),r'[j]? =some y→∃u,c[i*sz+j]? =some u∧u.oneCell'=true∧R (gy g H) w y u∧y.pure=true:=by
     intro j y hy;have hlt:j<r.length:=by have:=(List.getElem?_eq_some_iff.1 hy).1;omega
     obtain⟨y',h1,h2⟩:=m2 j r[j] (by simp[hlt])
     rw[hy]at h1;cases h1;obtain⟨u,h3,h4,h5⟩:=gW _ _ j r[j] q2 (by simp[hlt])
     rw[Nat.zero_add]at h3;exact⟨u,h3,h4,ih _ _ _ h2 h5⟩
    refine⟨by omega,wP fun j y hy=>?_,rz fun j y hy=>?_⟩
    ·grind
    ·obtain⟨u,h1,h2,h3,_⟩:=each j y hy;exact⟨.inr ⟨b,_,ak,sz,hb,rfl,hk⟩,u,by rw[fc hh];exact h1,h2,h3⟩
   split at h
   ·
    rename_i b ak i o;obtain⟨⟨sz,rows⟩,h1,h⟩:=bind_some h;have hrow:=gb h1;simp only at hrow h;split at h
    ·rename_i r hri;obtain⟨r',h2,h⟩:=bind_some h;simp[Rd.run]at h;subst h;simp only[R]at hr;obtain⟨k,sz',hk,rfl⟩:=hr;obtain⟨k',c,e,q1,q2,q3,_⟩:=hi.row b ak _ _ hrow hk;rw[hk]at q1;simp at q1;obtain⟨rfl,rfl⟩:=q1;obtain⟨c1,c2,c3⟩:=cells hrow hk q2 q3 hri h2;refine⟨?_,rfl⟩;grind [R]
    ·simp[Rd.run]at h
   ·
    rename_i b ak sz o m;obtain⟨⟨sz1,rows⟩,h1,h'⟩:=bind_some h;clear h;have h:=h';clear h';have hrow:=gb h1;simp only at hrow h;split at h
    ·rename_i hc;obtain⟨rfl,hle⟩:=hc;simp only[R]at hr;rcases hr with⟨rfl,rfl⟩ |⟨k,cap,e',s,hk,rfl,hsh,hcs,hm,_⟩
     ·simp only[List.take_zero,List.all_nil,if_true,Rd.run,Option.some.injEq]at h;subst h;refine⟨?_,rfl⟩;grind [R]
     obtain⟨k',c,e,q1,q2,q3,q4,q5,q6⟩:=hi.row b ak _ _ hrow hk;rw[hk]at q1;simp at q1;subst q1;have hlen:((rows.drop o).take m).length=m:=by simp;omega
     have hget:∀(i:Nat) (r:List AVal),((rows.drop o).take m)[i]? =some r→rows[o+i]? =some r:=by
      intro i r hr;rw[List.getElem?_take]at hr;split at hr
      ·rwa[List.getElem?_drop]at hr
      ·cases hr
     split at h
     ·rename_i hall;simp[Rd.run]at h;subst h;refine⟨?_,rfl⟩;simp only[R];refine⟨_,cap,by rw[hlen],by omega,.inr ⟨k,o*sz1,sz1,rfl,wQ fun i r hr=>?_⟩⟩
      have hp:=List.all_eq_true.1 hall r (List.mem_of_getElem? hr);obtain⟨r1,r2⟩:=bR _ _ _ _ q3 (hget i r hr);refine⟨r1,hp,rz fun j y hy=>?_⟩
      obtain⟨u,u1,u2,u3⟩:=gW _ _ j y r2 hy;have hpy:y.pure=true:=by
       clear u1 u2 u3 r2;induction r generalizing j with
       |nil=>simp at hy
       |cons a as ih2=>
        simp only[AVal.aO,Bool.and_eq_true]at hp;cases j with
        |zero=>simp at hy;subst hy;exact hp.1
        |succ j=>
         have:∀(l:List AVal) (j:Nat) (y:AVal),AVal.aO l=true→l[j]? =some y→y.pure=true:=by
          intro l;induction l with
          |nil=>intro j y _ h;simp at h
          |cons c cs ih3=>
           grind [AVal.aO]
         grind
      refine⟨.inr ⟨b,_,ak,sz1,hrow,rfl,hk⟩,u,?_,u2,gP hstF y u hpy u3⟩;grind [fc]
     ·obtain⟨rows',h2,h⟩:=bind_some h;simp[Rd.run]at h;subst h;obtain⟨m1,m2⟩:=ye h2;refine⟨?_,rfl⟩;simp only[R];refine⟨_,cap,by rw[m1,hlen],by omega,.inr ⟨k,o*sz1,sz1,rfl,wQ fun i r' hr'=>?_⟩⟩
      have hlt:i<((rows.drop o).take m).length:=by have:=(List.getElem?_eq_some_iff.1 hr').1;omega
      obtain⟨y,y1,y2⟩:=m2 i _ (List.getElem?_eq_getElem hlt);rw[hr']at y1;cases y1;have:=cells hrow hk q2 q3 (hget i _ (List.getElem?_eq_getElem hlt)) y2;rwa[Nat.add_mul]at this
    ·simp[Rd.run]at h
   ·
    rename_i b ak i o sE m;obtain⟨⟨sz1,rows⟩,h1,h'⟩:=bind_some h;clear h;have h:=h';clear h';have hrow:=gb h1;simp only at hrow h;split at h
    ·rename_i r hri;split at h
     ·rename_i hle;obtain⟨r',h2,h⟩:=bind_some h;simp[Rd.run]at h;subst h;simp only[R]at hr;obtain⟨k,sz,cap,hk,rfl,hm⟩:=hr;obtain⟨k',c,e,q1,q2,q3,q4,q5,q6⟩:=hi.row b ak _ _ hrow hk;rw[hk]at q1;simp at q1;obtain⟨rfl,rfl⟩:=q1;obtain⟨p1,p2⟩:=bR _ _ _ _ q3 hri;obtain⟨m1,m2⟩:=nk h2;have hl:((r.drop o).take (m*sE)).length=m*sE:=by simp;omega
      have each:∀(j:Nat) (y:AVal),r'[j]? =some y→∃u,c[i*sz+o+j]? =some u∧u.oneCell'=true∧R (gy g H) w y u∧y.pure=true:=by
       intro j y hy;have hlt:j<((r.drop o).take (m*sE)).length:=by have:=(List.getElem?_eq_some_iff.1 hy).1;omega
       obtain⟨y',h1,h2⟩:=m2 j _ (List.getElem?_eq_getElem hlt);rw[hy]at h1;cases h1;have hj:r[o+j]? =some ((r.drop o).take (m*sE))[j]:=by
        have:=List.getElem?_eq_getElem hlt;rw[List.getElem?_take,if_pos (by omega),List.getElem?_drop]at this
        exact this
       obtain⟨u,h3,h4,h5⟩:=gW _ _ (o+j) _ p2 hj;rw[Nat.zero_add,← Nat.add_assoc]at h3;exact⟨u,h3,h4,ih _ _ _ h2 h5⟩
      refine⟨?_,rfl⟩;simp only[R];refine⟨_,cap,by rw[iz],by rw[iz];exact hm,.inr ⟨k,i*sz+o,sE,rfl,xW m (by omega) (wP fun j y hy=>?_) (rz fun j y hy=>?_)⟩⟩
      ·grind
      ·obtain⟨u,u1,u2,u3,_⟩:=each j y hy;exact⟨.inr ⟨b,_,ak,sz,hrow,rfl,hk⟩,u,by rw[fc q2];exact u1,u2,u3⟩
     ·simp[Rd.run]at h
    ·simp[Rd.run]at h
   ·rename_i cs;obtain⟨cs',h2,h⟩:=bind_some h;simp[Rd.run]at h;subst h;simp only[R]at hr;obtain⟨vs,rfl,h1,hl⟩:=hr;obtain⟨i1,i2⟩:=ihL _ _ _ h2 hl;exact⟨by grind [R],i2⟩
   ·rename_i cs;obtain⟨cs',h2,h⟩:=bind_some h;simp[Rd.run]at h;subst h;simp only[R]at hr;obtain⟨vs,rfl,hl⟩:=hr;obtain⟨i1,i2⟩:=ihL _ _ _ h2 hl;exact⟨by simp only[R];exact⟨vs,rfl,i1⟩,i2⟩
   ·rename_i f p q;obtain⟨p',h2,h⟩:=bind_some h;obtain⟨q',h3,h⟩:=bind_some h;grind [Rd.run,R,AVal.pure]
   ·rename_i t u;obtain⟨u',h2,h⟩:=bind_some h;simp[Rd.run]at h;subst h;simp only[R]at hr;obtain⟨y,rfl,h1⟩:=hr;obtain⟨i1,i2⟩:=ih _ _ _ h2 h1;exact⟨by simp only[R];exact⟨y,rfl,i1⟩,i2⟩
   ·simp[Rd.run]at h
theorem vr{H:List af}(hi:Inv g H w){n:Nat}{l l':List AVal}{vs:List Value}(h:(gE (snap n) l).run H=some l')(hl:RL g w l vs):RL (gy g H) w l' vs∧AVal.aO l'=true:=by
 obtain⟨m1,m2⟩:=nk h;obtain⟨r1,r2⟩:=cK _ _ hl;have each:∀(i:Nat) (y:AVal),l'[i]? =some y→∃u,vs[i]? =some u∧R (gy g H) w y u∧y.pure=true:=by
  intro i y hy;have hlt:i<l.length:=by have:=(List.getElem?_eq_some_iff.1 hy).1;omega
  obtain⟨y',h1,h2⟩:=m2 i l[i] (by simp[hlt])
  rw[hy]at h1;cases h1;obtain⟨u,h3,h4⟩:=r2 i l[i] (by simp[hlt])
  exact⟨u,h3,kZ hi _ _ _ _ h2 h4⟩
 grind [o7,wP]
end
end Go.AM
end
section
namespace Go.AM
def JP(g:Gh)(w:World):aI→Ending→Prop
 | .ret v,e=>∃x,e=.returned x∧R g w v x
 | .aM v,e=>∃x,e=.panicked [{v:=x,recovered:=false}]∧R g w v x
def dL[ax](g:Gh)(H:List af)(w:World)(r:aI)(H1:List af)(e:Ending)(w':World):Prop:=∃g',Inv g' H1 w'∧aK g H w g' H1 w'∧JP g' w' r e
def iY(r:Loop)(vs:Array Value):Array Value:=(r.params.zip vs).foldl (fun tmps (t,a)=>tmps.setIfInBounds t a) r.tmps
structure eW[ax](P:Program)(orc:gF):Prop where
 fn:∀f args H r H1,orc.fn f args H=some (r,H1)→
  (∃ fn c, P.funcs[f]? = some fn ∧ fn.body = some c ∧ fn.name ≠ "runtime.NumGoroutine") ∧
  ∀g w (vs:Array Value),Inv g H w→RL g w args vs.toList→Calls P f vs w (dL g H w r H1)
 xE:∀b args H r H1,orc.xE b args H=some (r,H1)→∀g w (vs:Array Value) k sz,Inv g H w→RL g w args vs.toList→g.ai b 0=some (k,sz)→
  ∃rec,w.heap[k]? =some (.loop rec)∧vs.size=rec.params.size∧RoundIn Fence.wide 0 P k rec.fn (iY rec vs) rec.assign rec.body w (dL g H w r H1)
section
variable [ax] {g g1:Gh} {w w1:World} {H H1:List af}
theorem dS{k:Nat}:¬eD g [] k:=by
 rintro⟨b,x,v,z,h,_⟩;simp at h
theorem kB.st{g2:Gh}(hg:kB g w)(hst:∀k o,g.st k o→g2.st k o):kB g2 w:=
 fun i cs hi=>⟨(hg i cs hi).1,gI hst _ _ _ (hg i cs hi).1 (hg i cs hi).2⟩
theorem Inv.gy(hi:Inv g H w):Inv (gy g H) [] w:=by
 refine⟨fun b x h=>by simp at h,fun b b' x x' v v' k z z' h=>by simp at h,fun b ak _=>rfl,fun b x v ver' h=>by simp at h,fun b x v k z o h=>by simp at h,fun k o h=>?_,hi.b9.st fun _ _ h=>.inl h⟩
 rcases h with h |⟨b,x,v,z,h1,h2,h3⟩
 ·exact hi.dc k o h
 ·exact hi.jL h1 h2 h3
theorem Inv.bare(hi:Inv g H w):Inv {ai:=fun _ _=>none,st:=g.st} [] w:=
 ⟨fun b x h=>by simp at h,fun b b' x x' v v' k z z' h=>by simp at h,fun b ak _=>rfl,fun b x v ver' h=>by simp at h,fun b x v k z o h=>by simp at h,hi.dc,hi.b9.st fun _ _ h=>h⟩
theorem Bf{orc:gF}{P:Program}(ho:eW P orc)(hi:Inv g H w){f:FuncId}{args args':List AVal}{own:Bool}{vs:Array Value}{fin:Fin}(hl:RL g w args vs.toList)(hs:(gE (snap fm) args).run H=some args')(hown:own=AVal.aO args)
 (h:finish orc H (.tv f args' own)=some fin):
 (∃ fn c, P.funcs[f]? = some fn ∧ fn.body = some c ∧ fn.name ≠ "runtime.NumGoroutine") ∧
 ((∃v',fin=.ok {val:=v'}∧Calls P f vs w fun e w'=>∃x g',e=.returned x∧Inv g' H w'∧R g' w' v' x∧aK g H w g' H w')∨
  (∃v',fin=.aM v' []∧v'.flat=true∧Calls P f vs w fun e w'=>∃x,e=.panicked [{v:=x,recovered:=false}]∧Inv g H w'∧R g w' v' x∧aK g H w g H w')):=by
 simp only[finish,dM]at h;split at h
 ·rename_i v H1 hcall;obtain⟨hf,hcalls⟩:=ho.fn _ _ _ _ _ hcall;refine⟨hf,.inl ?_⟩;split at h
  ·rename_i v' hsnap;split at h<;>simp at h
   rename_i hc;subst h;refine⟨v',rfl,?_⟩;by_cases hp:own=true
   ·
    have hpure:AVal.aO args=true:=by rw[← hown];exact hp
    have hl0:RL {ai:=fun _ _=>none,st:=g.st} w args' vs.toList:=by
     obtain⟨m1,m2⟩:=nk hs;have he:args'=args:=by
      apply List.ext_getElem?;intro i;by_cases hlt:i<args.length
      ·obtain⟨y,y1,y2⟩:=m2 i _ (List.getElem?_eq_getElem hlt);have hpi:(args[i]).pure=true:=by
        have:∀(l:List AVal) (j:Nat) (y:AVal),AVal.aO l=true→l[j]? =some y→y.pure=true:=by
         intro l;induction l with
         |nil=>intro j y _ h;simp at h
         |cons c cs ih3=>
          grind [AVal.aO]
        exact this args i _ hpure (List.getElem?_eq_getElem hlt)
       have:(snap fm args[i])=.done args[i]:=by
        unfold fm snap;rw[if_pos hpi]
       grind [Rd.run]
      ·grind
     rw[he];exact jt (g:=g) (g2:={ai:=fun _ _=>none,st:=g.st}) (fun _ _ h=>h) _ _ hpure hl
    refine(hcalls _ w vs hi.bare hl0).mono ?_;rintro e w' ⟨g1,hi1,hla,x,rfl,hr⟩;obtain⟨r1,r2⟩:=kZ hi1 _ _ _ _ hsnap hr;have hkeep:∀k,k<w.heap.size→w'.heap[k]? =w.heap[k]? :=fun k hk=>hla.keep k hk dS
    have hst:∀k o,k<w.heap.size→(gy g1 H1).st k o→g.st k o:=by
     intro k o hk h;rcases h with h |h
     ·exact(hla.stk k o hk h).elim id fun h=>absurd h.1 dS
     ·exact absurd (hla.own k hk h) dS
    obtain⟨i1,i2⟩:=hi.frame hkeep hla.size hla.os hla.tape hla.output;refine⟨x,{ai:=g.ai,st:=fun k o=>g.st k o∨(w.heap.size≤k∧(gy g1 H1).st k o)},rfl,?_,?_,?_⟩
    ·have hext:Ext g w' {ai:=g.ai,st:=fun k o=>g.st k o∨(w.heap.size≤k∧(gy g1 H1).st k o)} w':=⟨fun _ _ _ h=>h,fun _ _ h=>.inl h,fun _ _ _=>rfl,fun _ _ h=>h⟩
     refine⟨fun b y hb=>gq hext (i1.good b y hb) (fun _ _ _ _ _=>rfl) (fun _ _ h=>h),hi.inj,hi.fresh,hi.next,?_,?_,i1.b9.mono hext⟩
     ·rintro b y v k z o hb hv hk (h |⟨h,_⟩)
      ·exact hi.free b y v k z o hb hv hk h
      ·have:=hi.jL hb hv hk;omega
     ·rintro k o (h |⟨_,h⟩)
      ·exact i1.dc k o h
      ·rcases h with h |⟨b,y,v,z,q1,q2,q3⟩
       ·exact hi1.dc k o h
       ·exact hi1.jL q1 q2 q3
    ·grind [gP]
    ·refine⟨⟨fun _ _ _ h=>h,fun _ _ h=>.inl h,i2.ext.cell,i2.ext.shape⟩,i2.size,fun k h _=>hkeep k h,fun k _ h=>h,Nat.le_refl _,i2.os,i2.tape,i2.output,?_,fun _ h=>⟨h,fun _=>rfl⟩,fun _ ak _ z h=>.inl ⟨ak,z,h⟩⟩
     grind
   ·have hflat:v'.flat=true:=by simpa[hp]using hc
    obtain⟨l1,_⟩:=vr hi hs hl;refine(hcalls _ w vs hi.gy l1).mono ?_;rintro e w' ⟨g1,hi1,hla,x,rfl,hr⟩;obtain⟨r1,r2⟩:=kZ hi1 _ _ _ _ hsnap hr;obtain⟨i1,i2⟩:=hi.frame (fun k hk=>hla.keep k hk dS) hla.size hla.os hla.tape hla.output
    grind [hU]
  ·cases h
 ·rename_i v H1 hcall;obtain⟨hf,hcalls⟩:=ho.fn _ _ _ _ _ hcall;refine⟨hf,.inr ?_⟩;split at h<;>simp at h
  rename_i hflat;subst h;obtain⟨l1,_⟩:=vr hi hs hl;refine⟨v,rfl,hflat,(hcalls _ w vs hi.gy l1).mono ?_⟩;rintro e w' ⟨g1,hi1,hla,x,rfl,hr⟩;obtain⟨i1,i2⟩:=hi.frame (fun k hk=>hla.keep k hk dS) hla.size hla.os hla.tape hla.output
  grind [hU]
 ·cases h
theorem mG{ids:List Nat}{H:List af}{b:Nat}{x:af}(h:(mask ids H)[b]? =some x):(ids.contains b=true∧H[b]? =some x)∨(ids.contains b=false∧x=.dead∧b<H.length):=by
 grind [mask]
theorem rR{ids:List Nat}{H:List af}{b:Nat}(h:ids.contains b=false)(hb:b<H.length):(mask ids H)[b]? =some .dead:=by
 grind [mask]
theorem we{ids:List Nat}{H:List af}{b:Nat}(h:ids.contains b=true):(mask ids H)[b]? =H[b]? :=by
 grind [mask]
theorem lY(ids:List Nat)(H:List af):(mask ids H).length=H.length:=by simp[mask]
theorem k4(hi:Inv g H w)(ids:List Nat):Inv g (mask ids H) w:=by
 refine⟨fun b x h=>?_,?_,?_,?_,?_,hi.dc,hi.b9⟩
 ·rcases mG h with⟨_,h⟩ |⟨_,rfl,_⟩
  ·exact hi.good b x h
  ·trivial
 ·intro b b' x x' v v' k z z' h h' hv hv';rcases mG h with⟨_,h⟩ |⟨_,rfl,_⟩
  ·rcases mG h' with⟨_,h'⟩ |⟨_,rfl,_⟩
   ·exact hi.inj b b' x x' v v' k z z' h h' hv hv'
   ·cases hv'
  ·cases hv
 ·intro b ak h;rcases h with h |h
  ·rcases mG h with⟨_,h⟩ |⟨_,h,_⟩
   ·exact hi.fresh b ak (.inl h)
   ·cases h
  ·exact hi.fresh b ak (.inr (by rwa[lY]at h))
 ·intro b x v ver' h hv;rcases mG h with⟨_,h⟩ |⟨_,rfl,_⟩
  ·exact hi.next b x v ver' h hv
  ·cases hv
 ·intro b x v k z o h hv;rcases mG h with⟨_,h⟩ |⟨_,rfl,_⟩
  ·exact hi.free b x v k z o h hv
  ·cases hv
theorem jE{ids:List Nat}{k:Nat}(h:eD g (mask ids H) k):∃b x v z,ids.contains b=true∧H[b]? =some x∧x.live=some v∧g.ai b v=some (k,z):=by
 obtain⟨b,x,v,z,h1,h2,h3⟩:=h;rcases mG h1 with⟨hc,h1⟩ |⟨_,rfl,_⟩
 ·exact⟨b,x,v,z,hc,h1,h2,h3⟩
 ·cases h2
theorem qC{f:Nat→af}:∀(ids:List Nat) (H:List af) (b:Nat),(ids.foldl (fun H i=>H.set i (f i)) H)[b]? =if ids.contains b=true∧b<H.length then some (f b)else H[b]?
 | [],H,b=>by simp
 |i::ids,H,b=>by
  simp only[List.foldl_cons];rw[qC ids (H.set i (f i)) b];grind
theorem qD{f:Nat→af}:∀(ids:List Nat) (H:List af),(ids.foldl (fun H i=>H.set i (f i)) H).length=H.length
 | [],_=>rfl
 |i::ids,H=>by simp[qD ids]
def merged(ids:List Nat)(H H1:List af):List af:=ids.foldl (fun H i=>H.set i (H1.getD i .dead)) H
theorem wR{ids:List Nat}{H H1:List af}(hlen:H.length≤H1.length){b:Nat}{x:af}(h:(merged ids H H1)[b]? =some x):b<H.length∧((ids.contains b=true∧H1[b]? =some x)∨(ids.contains b=false∧H[b]? =some x)):=by
 unfold merged at h;have hb:b<H.length:=by
  have:=(List.getElem?_eq_some_iff.1 h).1;rwa[qD]at this
 rw[qC]at h;grind
theorem Inv.merge{ids:List Nat}(hi:Inv g H w)(hi1:Inv g1 H1 w1)(hla:aK g (mask ids H) w g1 H1 w1)(hlen:H.length≤H1.length):
 Inv g1 (merged ids H H1++H1.drop H.length) w1∧aK g H w g1 (merged ids H H1++H1.drop H.length) w1:=by
 have hml:(merged ids H H1).length=H.length:=qD _ _;have side:∀(b:Nat) (x:af),(merged ids H H1++H1.drop H.length)[b]? =some x→((ids.contains b=true∨H.length≤b)∧H1[b]? =some x)∨(ids.contains b=false∧b<H.length∧H[b]? =some x):=by
  intro b x h;by_cases hb:b<H.length
  ·rw[List.getElem?_append_left (by omega)]at h
   grind [wR]
  ·grind
 have hrho:∀b,ids.contains b=false→b<H.length→∀ak,g1.ai b ak=g.ai b ak:=fun b hc hb=>(hla.ot b (rR hc hb)).2
 have hnot:∀{b x v k z},ids.contains b=false→H[b]? =some x→x.live=some v→g.ai b v=some (k,z)→¬eD g (mask ids H) k:=by
  intro b x v k z hc hb hv hk ho;obtain⟨b',x',v',z',h1,h2,h3,h4⟩:=jE ho;have:=hi.inj b b' x x' v v' k z z' hb h2 hv h3 hk h4;subst this;rw[hc]at h1;cases h1
 have hkeep:∀{b x v k z},ids.contains b=false→H[b]? =some x→x.live=some v→g.ai b v=some (k,z)→w1.heap[k]? =w.heap[k]? :=fun hc hb hv hk=>hla.keep _ (hi.jL hb hv hk) (hnot hc hb hv hk)
 refine⟨⟨?_,?_,?_,?_,?_,hi1.dc,hi1.b9⟩,⟨hla.ext,hla.size,?_,?_,by simp[hml],hla.os,hla.tape,hla.output,fun k o hk hs=>?_,?_,hla.mz⟩⟩
 ·intro b x h;rcases side b x h with⟨_,h⟩ |⟨hc,hb,h⟩
  ·exact hi1.good b x h
  ·exact gq hla.ext (hi.good b x h) (fun v k z hv hk=>hkeep hc h hv hk) fun v _ h0=>by rw[hrho b hc hb];exact h0
 ·intro b b' x x' v v' k z z' h h' hv hv' hk hk';rcases side b x h with⟨_,q⟩ |⟨hc,hb,q⟩<;>rcases side b' x' h' with⟨_,q'⟩ |⟨hc',hb',q'⟩
  ·exact hi1.inj b b' x x' v v' k z z' q q' hv hv' hk hk'
  ·rw[hrho b' hc' hb']at hk';have hlt:=hi.jL q' hv' hk';exact absurd (hla.own k hlt ⟨b,x,v,z,q,hv,hk⟩) (hnot hc' q' hv' hk')
  ·rw[hrho b hc hb]at hk;have hlt:=hi.jL q hv hk;exact absurd (hla.own k hlt ⟨b',x',v',z',q',hv',hk'⟩) (hnot hc q hv hk)
  ·rw[hrho b hc hb]at hk;rw[hrho b' hc' hb']at hk';exact hi.inj b b' x x' v v' k z z' q q' hv hv' hk hk'
 ·intro b ak h;rcases h with h |h
  ·rcases side b _ h with⟨_,q⟩ |⟨hc,hb,q⟩
   ·exact hi1.fresh b ak (.inl q)
   ·rw[hrho b hc hb];exact hi.fresh b ak (.inl q)
  ·refine hi1.fresh b ak (.inr ?_);simp[hml]at h;omega
 ·intro b x v ver' h hv hlt;rcases side b x h with⟨_,q⟩ |⟨hc,hb,q⟩
  ·exact hi1.next b x v ver' q hv hlt
  ·rw[hrho b hc hb];exact hi.next b x v ver' q hv hlt
 ·intro b x v k z o h hv hk hs;rcases side b x h with⟨_,q⟩ |⟨hc,hb,q⟩
  ·exact hi1.free b x v k z o q hv hk hs
  ·rw[hrho b hc hb]at hk;rcases hla.stk k o (hi.jL q hv hk) hs with h1 |⟨h1,_⟩
   ·exact hi.free b x v k z o q hv hk h1
   ·exact hnot hc q hv hk h1
 ·intro k hk hn;refine hla.keep k hk fun ho=>hn ?_
  obtain⟨b,x,v,z,_,h2,h3,h4⟩:=jE ho;exact⟨b,x,v,z,h2,h3,h4⟩
 ·rintro k hk ⟨b,x,v,z,h,hv,hz⟩;rcases side b x h with⟨_,q⟩ |⟨hc,hb,q⟩
  ·obtain⟨b',x',v',z',_,h2,h3,h4⟩:=jE (hla.own k hk ⟨b,x,v,z,q,hv,hz⟩);exact⟨b',x',v',z',h2,h3,h4⟩
  ·rw[hrho b hc hb]at hz;exact⟨b,x,v,z,q,hv,hz⟩
 ·rcases hla.stk k o hk hs with h1 |⟨h1,h2⟩
  ·exact .inl h1
  ·refine .inr ⟨?_,?_⟩
   ·obtain⟨b',x',v',z',_,q2,q3,q4⟩:=jE h1;exact⟨b',x',v',z',q2,q3,q4⟩
   ·rintro⟨b,x,v,z,h,hv,hz⟩;rcases side b x h with⟨_,q⟩ |⟨hc,hb,q⟩
    ·exact h2 ⟨b,x,v,z,q,hv,hz⟩
    grind
 ·intro b hb;have hlt:b<H.length:=(List.getElem?_eq_some_iff.1 hb).1;have hm:(mask ids H)[b]? =some .dead:=by
   cases hc:ids.contains b
   ·exact rR hc hlt
   ·rw[we hc];exact hb
  obtain⟨d1,d2⟩:=hla.ot b hm;grind
def Gh.upto(g:Gh)(n:Nat):Gh:={ai:=fun b ak=>if b<n then g.ai b ak else none,st:=g.st}
theorem Inv.drop{n:Nat}{K L:List af}(hi:Inv g H w)(hi1:Inv g1 (K++L) w1)(hla:aK g H w g1 (K++L) w1)(hn:K.length=n)(hH:H.length=n)(hb:∀b x,K[b]? =some x→ry n x=true∨H[b]? =some x∧(∀ak,g1.ai b ak=g.ai b ak)∧∀v k z,x.live=some v→g.ai b v=some (k,z)→w1.heap[k]? =w.heap[k]?):
 Inv (g1.upto n) K w1∧aK g H w (g1.upto n) K w1:=by
 have hget:∀(b:Nat) (x:af),K[b]? =some x→(K++L)[b]? =some x∧b<n:=by
  intro b x h;have hlt:=(List.getElem?_eq_some_iff.1 h).1;exact⟨by grind,by omega⟩
 have hr:∀b ak x,b<n→g1.ai b ak=some x→(if b<n then g1.ai b ak else none)=some x:=fun b ak x h e=>by rw[if_pos h];exact e
 have hr':∀{b ak x},(if b<n then g1.ai b ak else none)=some x→b<n∧g1.ai b ak=some x:=by
  intro b ak x h;split at h
  ·rename_i hb;exact⟨hb,h⟩
  ·cases h
 have hext:Ext g w (g1.upto n) w1:=by
  refine⟨fun b ak x h=>?_,hla.ext.st,hla.ext.cell,hla.ext.shape⟩
  have hbn:b<n:=by
   apply Decidable.byContradiction;intro hc;rw[hi.fresh b ak (.inr (by omega))]at h;cases h
  exact hr b ak x hbn (hla.ext.ai b ak x h)
 refine⟨⟨?_,?_,?_,?_,?_,hi1.dc,hi1.b9.st fun _ _ h=>h⟩,⟨hext,hla.size,hla.keep,?_,by omega,hla.os,hla.tape,hla.output,fun k o hk hs=>(hla.stk k o hk hs).imp_right fun h=>⟨h.1,fun⟨b,x,v,z,q,hv,hz⟩=>h.2 ⟨b,x,v,z,(hget b x q).1,hv,(hr' hz).2⟩⟩,?_,fun b ak k z h=>hla.mz b ak k z (hr' h).2⟩⟩
 ·intro b x h;obtain⟨hK,hbn⟩:=hget b x h;rcases hb b x h with hlt |⟨hHb,hrho,hk⟩
  ·have hg:=hi1.good b x hK;cases x with
   |aR=>trivial
   |dead=>trivial
   |row ak sz rows=>
    rcases hg with⟨k,c,e,h1,h2,h3,h4⟩ |⟨h1,h2,h3⟩
    case inr=>exact .inr ⟨h1,by grind [Gh.upto],h3⟩
    refine .inl ⟨k,c,e,hr _ _ _ hbn h1,h2,?_,h4⟩;simp only[ry,List.all_eq_true]at hlt;refine gr _ _ fun j r hj=>?_
    obtain⟨r1,r2⟩:=bR _ _ _ _ h3 hj;refine⟨r1,?_⟩;have hrl:=hlt r (List.mem_of_getElem? hj);obtain⟨vs,v1,v2,v3,v4⟩:=dR r2;exact cW (jM (n:=n) (g:=g1) (g2:=g1.upto n) (fun _ _ h=>h) (fun b ak x h e=>hr b ak x h e) _ _ hrl v3) v2 v4
   |map clock es=>
    obtain⟨k,ents,h1,h2,h3⟩:=hg;refine⟨k,ents,hr _ _ _ hbn h1,h2,?_⟩;simp only[ry,List.all_eq_true,Bool.and_eq_true]at hlt;obtain⟨l1,l2⟩:=jC h3;refine rQ l1 fun j p e hp he=>?_
    obtain⟨e',q1,q2,q3,q4⟩:=l2 j p hp;rw[he]at q1;cases q1;have hpl:=hlt p (List.mem_of_getElem? hp);exact⟨jD (n:=n) (g:=g1) (g2:=g1.upto n) (fun _ _ h=>h) (fun b ak x h e=>hr b ak x h e) _ _ hpl.1 q2,jD (n:=n) (g:=g1) (g2:=g1.upto n) (fun _ _ h=>h) (fun b ak x h e=>hr b ak x h e) _ _ hpl.2 q3,q4⟩
   |loop st pend fid A ps assign body=>
    obtain⟨k,tmps,dk,fn,h1,h2,h3⟩:=hg;exact⟨k,tmps,dk,fn,hr _ _ _ hbn h1,h2,jM (n:=n) (g:=g1) (g2:=g1.upto n) (fun _ _ h=>h) (fun b ak x h e=>hr b ak x h e) _ _ hlt h3⟩
   |defs=>
    obtain⟨k,h1,h2⟩:=hg;exact⟨k,hr _ _ _ hbn h1,h2⟩
   |iter m since seen stepped=>
    obtain⟨k,mo,h1,h2,h3⟩:=hg;exact⟨k,mo,hr _ _ _ hbn h1,h2,jD (n:=n) (g:=g1) (g2:=g1.upto n) (fun _ _ h=>h) (fun b ak x h e=>hr b ak x h e) _ _ hlt h3⟩
  ·exact gq hext (hi.good b x hHb) hk fun v _ h0=>by grind [Gh.upto]
 ·intro b b' x x' v v' k z z' h h' hv hv' hk hk';exact hi1.inj b b' x x' v v' k z z' (hget b x h).1 (hget b' x' h').1 hv hv' (hr' hk).2 (hr' hk').2
 ·intro b ak h;rcases h with h |h
  ·have:=hi1.fresh b ak (.inl (hget b _ h).1);simp[Gh.upto,this]
  grind [Gh.upto]
 ·intro b x v ver' h hv hlt;have:=hi1.next b x v ver' (hget b x h).1 hv hlt;simp[Gh.upto,this]
 ·intro b x v k z o h hv hk hs;exact hi1.free b x v k z o (hget b x h).1 hv (hr' hk).2 hs
 ·rintro k hk ⟨b,x,v,z,h,hv,hz⟩;exact hla.own k hk ⟨b,x,v,z,(hget b x h).1,hv,(hr' hz).2⟩
 ·intro b hbd;obtain⟨d1,d2⟩:=hla.ot b hbd;have hlt:b<H.length:=(List.getElem?_eq_some_iff.1 hbd).1;refine⟨?_,fun ak=>?_⟩
  ·grind
  grind [Gh.upto]
theorem gd(hi:Inv g H w){ids:List Nat}{res:Option (aI×List af)}{fin:Fin}(h:dW H ids res=some fin):∃r H1,res=some (r,H1)∧
 ((∃aT,fin=.ok aT∧∀e w',dL g (mask ids H) w r H1 e w'→∃x g',e=.returned x∧Inv g' (aT.apply H) w'∧R g' w' aT.val x∧aK g H w g' (aT.apply H) w')∨
  (∃v',fin=.aM v' ids∧v'.flat=true∧∀e w',dL g (mask ids H) w r H1 e w'→∃x,e=.panicked [{v:=x,recovered:=false}]∧Inv g (ids.foldl (fun H i=>H.set i .dead) H) w'∧R g w' v' x∧aK g H w g (ids.foldl (fun H i=>H.set i .dead) H) w')):=by
 unfold dW at h;split at h
 ·rename_i v H1;refine⟨_,_,rfl,.inl ?_⟩;split at h
  ·rename_i hlen;have happ:∀news,({val:=v,cZ:=ids.map fun i=>(i,H1.getD i .dead),news:=news}:cF).apply H=merged ids H H1++news:=by
    intro news;simp only[cF.apply,List.foldl_map,merged]
   dsimp only at h;split at h
   ·rename_i hc;simp only[Bool.and_eq_true,List.all_eq_true]at hc;cases h;refine⟨_,rfl,?_⟩;rintro e w' ⟨g1,hi1,hla,x,rfl,hr⟩;obtain⟨m1,m2⟩:=hi.merge hi1 hla hlen;have hml:(merged ids H H1).length=H.length:=qD _ _;obtain⟨d1,d2⟩:=hi.drop (n:=H.length) m1 m2 hml rfl (by
     intro b y hb;obtain⟨hbl,h |h⟩:=wR hlen hb
     ·left;have hm:b∈ids:=by simpa using h.1
      have:=hc.2 (b,H1.getD b .dead) (List.mem_map.2 ⟨b,hm,rfl⟩);grind
     ·right;refine⟨h.2,fun ak=>(hla.ot b (rR h.1 hbl)).2 ak,fun v' k z hv hk=>?_⟩
      refine hla.keep k (hi.jL h.2 hv hk) fun hown=>?_
      obtain⟨b',x',v2,z',h1,h2,h3,h4⟩:=jE hown;have:=hi.inj b b' y x' v' v2 k z z' h.2 h2 hv h3 hk h4;grind)
    refine⟨x,g1.upto H.length,rfl,?_,?_,?_⟩
    ·grind
    ·exact jD (n:=H.length) (g:=g1) (g2:=g1.upto H.length) (fun _ _ h=>h) (fun b ak y hb e=>by simp[Gh.upto,hb,e]) v x hc.1 hr
    grind
   ·cases h;refine⟨_,rfl,?_⟩;rintro e w' ⟨g1,hi1,hla,x,rfl,hr⟩;obtain⟨m1,m2⟩:=hi.merge hi1 hla hlen;grind
  ·cases h
 ·rename_i v H1;refine⟨_,_,rfl,.inr ?_⟩;split at h<;>simp at h
  rename_i hflat;subst h;refine⟨v,rfl,hflat,?_⟩;rintro e w' ⟨g1,hi1,hla,x,rfl,hr⟩;have hget:∀(b:Nat) (y:af),(ids.foldl (fun H i=>H.set i af.dead) H)[b]? =some y→(ids.contains b=false∧H[b]? =some y)∨y=.dead:=by
   intro b y h;rw[qC (f:=fun _=>af.dead)]at h
   split at h
   ·right;simp at h;exact h.symm
   ·grind
  have hext:Ext g w g w':=⟨fun _ _ _ h=>h,fun _ _ h=>h,hla.ext.cell,hla.ext.shape⟩
  have hlen2:(ids.foldl (fun H i=>H.set i af.dead) H).length=H.length:=qD (f:=fun _=>af.dead) ids H
  refine⟨x,rfl,⟨?_,?_,?_,?_,?_,fun k o h=>Nat.lt_of_lt_of_le (hi.dc k o h) hla.size,hi.b9.mono hext⟩,hU v x hflat hr,⟨hext,hla.size,?_,?_,by omega,hla.os,hla.tape,hla.output,fun _ _ _ h=>.inl h,?_,fun _ ak _ z h=>.inl ⟨ak,z,h⟩⟩⟩
  ·intro b y hb;rcases hget b y hb with⟨hc,h⟩ |rfl
   ·refine gq hext (hi.good b y h) (fun v' k z hv hk=>hla.keep k (hi.jL h hv hk) fun hown=>?_) fun _ _ h=>h
    obtain⟨b',x',v2,z',h1,h2,h3,h4⟩:=jE hown;have:=hi.inj b b' y x' v' v2 k z z' h h2 hv h3 hk h4;grind
   ·trivial
  ·intro b b' y y' v1 v2 k z z' h h' hv hv' hk hk';rcases hget b y h with⟨_,h⟩ |rfl
   ·rcases hget b' y' h' with⟨_,h'⟩ |rfl
    ·exact hi.inj b b' y y' v1 v2 k z z' h h' hv hv' hk hk'
    ·cases hv'
   ·cases hv
  ·intro b ak h;rcases h with h |h
   ·rcases hget b _ h with⟨_,h⟩ |h
    ·exact hi.fresh b ak (.inl h)
    ·cases h
   ·exact hi.fresh b ak (.inr (by omega))
  ·intro b y v1 ver' h hv hlt;rcases hget b y h with⟨_,h⟩ |rfl
   ·exact hi.next b y v1 ver' h hv hlt
   ·cases hv
  ·intro b y v1 k z o h hv hk hs;rcases hget b y h with⟨_,h⟩ |rfl
   ·exact hi.free b y v1 k z o h hv hk hs
   ·cases hv
  ·intro k hk hn;refine hla.keep k hk fun ho2=>hn ?_
   obtain⟨b,y,v1,z,_,h2,h3,h4⟩:=jE ho2;exact⟨b,y,v1,z,h2,h3,h4⟩
  ·rintro k hk ⟨b,y,v1,z,h,hv,hz⟩;rcases hget b y h with⟨_,h⟩ |rfl
   ·exact⟨b,y,v1,z,h,hv,hz⟩
   ·cases hv
  grind
 ·cases h
theorem Bg{orc:gF}{P:Program}(ho:eW P orc)(hi:Inv g H w){f:FuncId}{args:List AVal}{ids:List Nat}{vs:Array Value}{fin:Fin}(hl:RL g w args vs.toList)
 (h:finish orc H (.gY f args ids)=some fin):
 (∃ fn c, P.funcs[f]? = some fn ∧ fn.body = some c ∧ fn.name ≠ "runtime.NumGoroutine") ∧
 ((∃aT,fin=.ok aT∧Calls P f vs w fun e w'=>∃x g',e=.returned x∧Inv g' (aT.apply H) w'∧R g' w' aT.val x∧aK g H w g' (aT.apply H) w')∨
  (∃v',fin=.aM v' ids∧v'.flat=true∧Calls P f vs w fun e w'=>∃x,e=.panicked [{v:=x,recovered:=false}]∧Inv g (ids.foldl (fun H i=>H.set i .dead) H) w'∧R g w' v' x∧aK g H w g (ids.foldl (fun H i=>H.set i .dead) H) w')):=by
 simp only[finish,dM,ct]at h;obtain⟨r,H1,hcall,hp⟩:=gd hi h;obtain⟨hf,hcalls⟩:=ho.fn _ _ _ _ _ hcall;refine⟨hf,?_⟩;rcases hp with⟨aT,rfl,hp⟩ |⟨v',rfl,hfl,hp⟩
 ·exact .inl ⟨aT,rfl,(hcalls g w vs (k4 hi ids) hl).mono fun e w' h=>hp e w' h⟩
 ·exact .inr ⟨v',rfl,hfl,(hcalls g w vs (k4 hi ids) hl).mono fun e w' h=>hp e w' h⟩
theorem jN{n b:Nat}{H:List af}{x:af}(h:(kF n H)[b]? =some x):(b<n∧x=.dead)∨(n≤b∧H[b]? =some x):=by
 grind [kF]
theorem FB(hi:Inv g H w){n:Nat}(hn:n≤H.length):Inv g (kF n H) w:=by
 have hlen:(kF n H).length=H.length:=by simp[kF];omega
 refine⟨fun b x h=>?_,?_,?_,?_,?_,hi.dc,hi.b9⟩
 ·rcases jN h with⟨_,rfl⟩ |⟨_,h⟩
  ·trivial
  ·exact hi.good b x h
 ·intro b b' x x' v v' k z z' h h' hv hv';rcases jN h with⟨_,rfl⟩ |⟨_,h⟩
  ·cases hv
  ·rcases jN h' with⟨_,rfl⟩ |⟨_,h'⟩
   ·cases hv'
   ·exact hi.inj b b' x x' v v' k z z' h h' hv hv'
 ·intro b ak h;rcases h with h |h
  ·rcases jN h with⟨_,h⟩ |⟨_,h⟩
   ·cases h
   ·exact hi.fresh b ak (.inl h)
  ·exact hi.fresh b ak (.inr (by rwa[hlen]at h))
 ·intro b x v ver' h hv;rcases jN h with⟨_,rfl⟩ |⟨_,h⟩
  ·cases hv
  ·exact hi.next b x v ver' h hv
 ·intro b x v k z o h hv;rcases jN h with⟨_,rfl⟩ |⟨_,h⟩
  ·cases hv
  ·exact hi.free b x v k z o h hv
theorem GG(hi:Inv g H w){ids:List Nat}{res:Option (aI×List af)}{fin:Fin}(h:uV H ids res=some fin):∃r H1,res=some (r,H1)∧
 ((∃aT,fin=.ok aT∧∀e w',dL g (mask ids H) w r H1 e w'→∃x g',e=.returned x∧Inv g' (aT.apply H) w'∧R g' w' aT.val x∧aK g H w g' (aT.apply H) w')∨
  (∃v',fin=.aM v' ids∧v'.flat=true∧∀e w',dL g (mask ids H) w r H1 e w'→∃x,e=.panicked [{v:=x,recovered:=false}]∧Inv g (ids.foldl (fun H i=>H.set i .dead) H) w'∧R g w' v' x∧aK g H w g (ids.foldl (fun H i=>H.set i .dead) H) w')):=by
 unfold uV at h;split at h
 ·rename_i v H1;refine⟨_,_,rfl,.inl ?_⟩;split at h
  ·rename_i hlen;split at h
   ·rename_i hc;rw[List.all_eq_true]at hc;split at h
    ·rename_i v' hsnap;simp only[Option.some.injEq]at h;subst h;refine⟨_,rfl,?_⟩;rintro e w' ⟨g1,hi1,hla,x,rfl,hr⟩;have happ:({val:=v',cZ:=(ids.filter fun i=> !qz (H.getD i .dead) (H1.getD i .dead)).map fun i=>(i,H1.getD i .dead)}:cF).apply H=merged ids H H1:=by
      simp only[cF.apply,List.foldl_map,merged,List.append_nil];apply List.ext_getElem?;intro b;rw[qC (f:=fun i=>H1.getD i .dead),qC (f:=fun i=>H1.getD i .dead)]
      by_cases hb:b∈ids
      ·grind [qz,GA]
      ·simp[hb]
     obtain⟨m1,m2⟩:=hi.merge hi1 hla hlen;have hml:(merged ids H H1).length=H.length:=qD _ _;obtain⟨d1,d2⟩:=hi.drop (n:=H.length) m1 m2 hml rfl (by
      intro b y hb;obtain⟨hbl,h |h⟩:=wR hlen hb
      ·grind
      ·right;refine⟨h.2,fun ak=>(hla.ot b (rR h.1 hbl)).2 ak,fun v' k z hv hk=>?_⟩
       refine hla.keep k (hi.jL h.2 hv hk) fun hown=>?_
       obtain⟨b',x',v2,z',h1,h2,h3,h4⟩:=jE hown;have:=hi.inj b b' y x' v' v2 k z z' h.2 h2 hv h3 hk h4;grind)
     have hK:=FB hi1 hlen;obtain⟨r1,r2⟩:=kZ hK _ _ _ _ hsnap hr;have hup:∀{b ak y},(g1.upto H.length).ai b ak=some y→b<H.length∧g1.ai b ak=some y:=by
      intro b ak y h;simp only[Gh.upto]at h;split at h
      ·rename_i hb;exact⟨hb,h⟩
      ·cases h
     have howned:∀k,eD g1 (kF H.length H1) k→∃b' x' v2 z',H.length≤b'∧H1[b']? =some x'∧x'.live=some v2∧g1.ai b' v2=some (k,z'):=by
      rintro k ⟨b',x',v2,z',q1,q2,q3⟩;rcases jN q1 with⟨_,rfl⟩ |⟨q0,q1⟩
      ·cases q2
      ·grind
     have hext:Ext (g1.upto H.length) w' {ai:=(g1.upto H.length).ai,st:=(gy g1 (kF H.length H1)).st} w':=
      ⟨fun _ _ _ h=>h,fun _ _ h=>.inl h,fun _ _ _=>rfl,fun _ _ h=>h⟩
     refine⟨x,{ai:=(g1.upto H.length).ai,st:=(gy g1 (kF H.length H1)).st},rfl,?_,gP (g:=gy g1 (kF H.length H1)) (g2:={ai:=(g1.upto H.length).ai,st:=(gy g1 (kF H.length H1)).st}) (fun _ _ h=>h) v' x r2 r1,?_⟩
     ·rw[happ];refine⟨fun b y hb=>gq hext (d1.good b y hb) (fun _ _ _ _ _=>rfl) (fun _ _ h=>h),d1.inj,d1.fresh,d1.next,fun b y v2 k z o hb hv hk hs=>?_,fun k o hs=>?_,d1.b9.mono hext⟩
      ·rcases hs with hs |hs
       ·exact d1.free b y v2 k z o hb hv hk hs
       ·obtain⟨b',x',v3,z',q0,q1,q2,q3⟩:=howned k hs;have hbl:b<H.length:=(hup hk).1;have:=m1.inj b b' y x' v2 v3 k z z' (by grind) (by
         grind) hv q2 (hup hk).2 q3
        omega
      ·rcases hs with hs |hs
       ·exact d1.dc k o hs
       ·obtain⟨b',x',v3,z',q0,q1,q2,q3⟩:=howned k hs;exact hi1.jL q1 q2 q3
     ·rw[happ];refine⟨⟨d2.ext.ai,fun k o h=>.inl (d2.ext.st k o h),d2.ext.cell,d2.ext.shape⟩,d2.size,d2.keep,d2.own,d2.len,d2.os,d2.tape,d2.output,fun k o hk hs=>?_,d2.ot,d2.mz⟩
      rcases hs with hs |hs
      ·exact d2.stk k o hk hs
      ·obtain⟨b',x',v3,z',q0,q1,q2,q3⟩:=howned k hs;rcases hla.mz b' v3 k z' q3 with⟨ver',z2,h2⟩ |h2
       ·rw[hi.fresh b' ver' (.inr q0)]at h2;cases h2
       ·omega
    ·cases h
   ·cases h
  ·cases h
 ·exact gd hi h
theorem Bh{orc:gF}{P:Program}(ho:eW P orc)(hi:Inv g H w){f:FuncId}{args:List AVal}{ids:List Nat}{z:Bool}{vs:Array Value}{fin:Fin}(hl:RL g w args vs.toList)
 (h:finish orc H (if z then .Au f args ids else .gY f args ids)=some fin):
 (∃ fn c, P.funcs[f]? = some fn ∧ fn.body = some c ∧ fn.name ≠ "runtime.NumGoroutine") ∧
 ((∃aT,fin=.ok aT∧Calls P f vs w fun e w'=>∃x g',e=.returned x∧Inv g' (aT.apply H) w'∧R g' w' aT.val x∧aK g H w g' (aT.apply H) w')∨
  (∃v',fin=.aM v' ids∧v'.flat=true∧Calls P f vs w fun e w'=>∃x,e=.panicked [{v:=x,recovered:=false}]∧Inv g (ids.foldl (fun H i=>H.set i .dead) H) w'∧R g w' v' x∧aK g H w g (ids.foldl (fun H i=>H.set i .dead) H) w')):=by
 cases z
 ·exact Bg ho hi hl h
 ·simp only[if_true,finish,dM,ct]at h;obtain⟨r,H1,hcall,hp⟩:=GG hi h;obtain⟨hf,hcalls⟩:=ho.fn _ _ _ _ _ hcall;refine⟨hf,?_⟩;rcases hp with⟨aT,rfl,hp⟩ |⟨v',rfl,hfl,hp⟩
  ·exact .inl ⟨aT,rfl,(hcalls g w vs (k4 hi ids) hl).mono fun e w' h=>hp e w' h⟩
  ·exact .inr ⟨v',rfl,hfl,(hcalls g w vs (k4 hi ids) hl).mono fun e w' h=>hp e w' h⟩
theorem Bi{orc:gF}{P:Program}(ho:eW P orc)(hi:Inv g H w){b k sz:Nat}{args:List AVal}{ids:List Nat}{vs:Array Value}{fin:Fin}(hl:RL g w args vs.toList)(hb:g.ai b 0=some (k,sz))
 (h:finish orc H (.round b args ids)=some fin):
 ∃rec,w.heap[k]? =some (.loop rec)∧vs.size=rec.params.size∧
 ((∃aT,fin=.ok aT∧RoundIn Fence.wide 0 P k rec.fn (iY rec vs) rec.assign rec.body w fun e w'=>∃x g',e=.returned x∧Inv g' (aT.apply H) w'∧R g' w' aT.val x∧aK g H w g' (aT.apply H) w')∨
  (∃v',fin=.aM v' ids∧v'.flat=true∧RoundIn Fence.wide 0 P k rec.fn (iY rec vs) rec.assign rec.body w fun e w'=>∃x,e=.panicked [{v:=x,recovered:=false}]∧Inv g (ids.foldl (fun H i=>H.set i .dead) H) w'∧R g w' v' x∧aK g H w g (ids.foldl (fun H i=>H.set i .dead) H) w')):=by
 simp only[finish,dM,ct]at h;obtain⟨r,H1,hcall,hp⟩:=gd hi h;obtain⟨rec,h1,h2,h3⟩:=ho.xE _ _ _ _ _ hcall g w vs k sz (k4 hi ids) hl hb;refine⟨rec,h1,h2,?_⟩;rcases hp with⟨aT,rfl,hp⟩ |⟨v',rfl,hfl,hp⟩
 ·exact .inl ⟨aT,rfl,h3.mono fun e w' h=>hp e w' h⟩
 ·exact .inr ⟨v',rfl,hfl,h3.mono fun e w' h=>hp e w' h⟩
end
end Go.AM
end
section
namespace Go.AM
theorem I4[ax]{H:List af}{m:Rd cF}{pre:Pre}(h:(m.bind fun e=>.done (.aT e)).run H=some pre):∃e,pre=.aT e∧m.run H=some e:=by
 obtain⟨e,h1,h2⟩:=bind_some h;grind [Rd.run]
section
variable [ax] {P:Program} {cfg:dV} {H:List af} {nid:Nat} {ai:Operand→AVal} {op:Op} {pre:Pre}
theorem GH(h:(if cc op=true then Rd.get nid fun
 | .aR=>(bN P nid ai op).bind fun e=>.done (.aT e)
 |_=>.fail
 else(bN P nid ai op).bind fun e=>.done (.aT e)).run H=some pre):
 ∃e,pre=.aT e∧(bN P nid ai op).run H=some e∧(cc op=true→H[nid]? =some .aR):=by
 grind [Rd.run,I4]
theorem oa(h:(bf P cfg nid ai op).run H=some pre):
 (∃e,pre=.aT e∧(bN P nid ai op).run H=some e∧(cc op=true→H[nid]? =some .aR))∨
 (∃f args tys n p q,op=.call {callee:=.value f,args:=args,argTypes:=tys}∧ai f=.fn (.func n) p q∧(kE cfg n (p++args.toList.map ai++q)).run H=some pre∧bf P cfg nid ai op=kE cfg n (p++args.toList.map ai++q))∨
 (∃f args tys n p q,op=.defer {callee:=.value f,args:=args,argTypes:=tys}∧ai f=.fn (.func n) p q∧pre=.defer n (p++args.toList.map ai++q))∨
 (∃x t v,op=.panic x∧ai x=.ei t v∧v.flat=true∧pre=.aM (.ei t v))∨
 (∃f args tys b ids,op=.call {callee:=.value f,args:=args,argTypes:=tys}∧ai f=.gj b∧pre=.round b (args.toList.map ai) ids)∨
 (∃f args tys n p q fn,op=.call {callee:=.value f,args:=args,argTypes:=tys}∧ai f=.fn (.func n) p q∧P.funcs[n]? =some fn∧fn.body.isNone=true∧(Av fn (p++args.toList.map ai++q)).run H=some pre):=by
 have other:(bf P cfg nid ai op=if cc op=true then Rd.get nid fun
  | .aR=>(bN P nid ai op).bind fun e=>.done (.aT e)
  |_=>.fail
  else(bN P nid ai op).bind fun e=>.done (.aT e))→(∃e,pre=.aT e∧(bN P nid ai op).run H=some e∧(cc op=true→H[nid]? =some .aR)):=by
  intro he;rw[he]at h;exact GH h
 cases ho:op
 case call c=>
  obtain⟨cal,args,tys⟩:=c;cases cal with
  |value f=>
   simp only[ho,bf]at h;split at h
   ·grind [bf,Rd.run]
   ·rename_i b hf;obtain⟨ids,_,h2⟩:=bind_some h;grind [Rd.run]
   ·simp[Rd.run]at h
  |invoke r m=>left;subst ho;exact other rfl
  |builtin b=>left;subst ho;exact other rfl
 case defer c=>
  obtain⟨cal,args,tys⟩:=c;cases cal with
  |value f=>
   grind [bf,callee,Rd.run]
  |invoke r m=>left;subst ho;exact other rfl
  |builtin b=>left;subst ho;exact other rfl
 case panic x=>
  grind [bf,Rd.run]
 all_goals (left;subst ho;exact other rfl)
end
def KN(g:Gh)(w:World)(d:Deferred):nG→Prop
 | .call f args=>∃cap,d.target=.fn (.func f) cap∧RL g w args (d.args.toList++cap.toList)
 | .mark b=>∃k sz,g.ai b 0=some (k,sz)∧d.target=.collected k
theorem I5{g g':Gh}{w w':World}(h:Ext g w g' w'){d:Deferred}:∀{p:nG},KN g w d p→KN g' w' d p
 | .call _ _,⟨cap,ht,hl⟩=>⟨cap,ht,bq h _ _ hl⟩
 | .mark _,⟨k,sz,hk,ht⟩=>⟨k,sz,h.ai _ _ _ hk,ht⟩
def RD(g:Gh)(w:World):List nG→List Deferred→Prop
 | [],ds=>ds=[]
 |p::ps,ds=>∃d ds',ds=d::ds'∧KN g w d p∧RD g w ps ds'
theorem cT{g g':Gh}{w w':World}(h:Ext g w g' w'):∀(l:List nG) (ds:List Deferred),RD g w l ds→RD g' w' l ds
 | [],_,hr=>hr
 |_::ps,_,⟨d,ds',e,h1,hr⟩=>⟨d,ds',e,I5 h h1,cT h ps ds' hr⟩
def Fr(ro:Option Nat):Fence:={Fence.wide with round:=ro}
theorem ze(ro:Option Nat)(n:Nat):(Fr ro).room n:=fun _ h=>by simp[Fr,Fence.wide]at h
theorem k6(ro:Option Nat){n:Nat}:(Fr ro).depth.isSome=true→1≤n:=fun h=>by simp[Fr,Fence.wide]at h
theorem tV{P:Program}{ro:Option Nat}{n:Nat}{f:FuncId}{vs:Array Value}{w:World}{R:Ending→World→Prop}(h:Calls P f vs w R):CallsIn (Fr ro) n P f vs w R:=(callsIn_wide (n:=n)).2 h
theorem Aw{P:Program}{ro:Option Nat}{n m l:Nat}{f:FuncId}{tmps:Array Value}{assign body:Code}{w:World}{R:Ending→World→Prop}(h:RoundIn Fence.wide m P l f tmps assign body w R):
 RoundIn (Fr ro) n P l f tmps assign body w R:=⟨trivial,fun c cs _=>h.2 c cs (room_wide _)⟩
structure dy[ax](g:Gh)(s:St)(a:Act)(w:World):Prop where
 inv:Inv g s.H w
 tmps:RL g w s.A a.tmps.toList
 defs:RD g w s.D a.defers
section
variable [ax] {P:Program} {cfg:dV} {orc:gF} {g:Gh} {s:St} {a:Act} {w:World} {ops:Array Oper}
theorem uY:R g w nothing undef:=by simp[nothing,R,undef]
theorem dy.eval(hs:dy g s a w)(x:Operand):R g w (bQ s.A x) (a.eval x):=by
 cases x with
 |tmp t=>
  obtain⟨h1,h2⟩:=cK _ _ hs.tmps;simp only[bQ,Act.eval];by_cases ht:t<s.A.length
  ·obtain⟨y,hy,hr⟩:=h2 t _ (List.getElem?_eq_getElem ht);simp_all
  grind [uY]
 |const v=>exact CQ v
 |global i=>simp[bQ,Act.eval,R]
 |func f=>
  simp only[bQ,Act.eval,R];grind [RL]
theorem HR{l:List AVal}{vs:List Value}{v:AVal}{x:Value}(h:RL g w l vs)(hr:R g w v x)(d:Nat):RL g w (l.set d v) (vs.set d x):=by
 grind [cK,o7]
theorem jb{A:List AVal}{v:AVal}{x:Value}(h:RL g w A a.tmps.toList)(hr:R g w v x)(d:Option Tmp):RL g w (fG A d v) (a.put d x).tmps.toList:=by
 cases d with
 |none=>exact h
 |some d=>
  simp only[fG,Act.put,Array.toList_setIfInBounds];exact HR h hr d
theorem put_defers(a:Act)(d:Option Tmp)(v:Value):(a.put d v).defers=a.defers:=by cases d<;>rfl
theorem kH(hs:dy g s a w){o:Oper}{b:Bool}(h:fL ops s.A o=some b):Region.wanted o (yielded ops a.tmps)=b:=by
 unfold fL at h;unfold Region.wanted;split at h
 ·rename_i hg;rw[hg];simpa using h
 ·rename_i j want hg;rw[hg];simp only
  split at h
  ·rename_i hd;simp at h;subst h;simp only[yielded,hd];cases want<;>rfl
  ·rename_i d hd;obtain⟨h1,h2⟩:=cK _ _ hs.tmps;simp only[Array.length_toList]at h1;have hy:yielded ops a.tmps j=match a.tmps[d]? with |some (.bool b)=>some b |_=>none:=by
    simp only[yielded,hd,Option.bind_some];rfl
   rw[hy];cases hA:s.A[d]? with
   |none=>
    grind
   |some v=>
    rw[hA]at h;obtain⟨y,hy,hr⟩:=h2 d v hA;have hy':a.tmps[d]? =some y:=by simpa using hy
    rw[hy'];cases v with
    |sc u=>
     simp only[R]at hr;subst hr;cases y with
     |bool c=>simp at h;subst h;simp
     |_=>simp at h;subst h;simp
    |aq=>simp at h
    |agg cs=>grind [R]
    |bV cs=>grind [R]
    |ptr b ak i o=>grind [R]
    |bp cs o=>grind [R]
    |sl b ak sz o n=>grind [R]
    |aD rows=>grind [R]
    |fn f p q=>grind [R]
    |ei t v=>grind [R]
    |mp b=>grind [R]
    |gj b=>grind [R]
    |sa=>grind [R]
    |eU i o=>grind [R]
    |emp=>grind [R]
    |nz b=>grind [R]
theorem jO(hs:dy g s a w)(args:Array Operand):RL g w (args.toList.map (bQ s.A)) (args.toList.map a.eval):=by
 induction args.toList with
 |nil=>simp[RL]
 |cons x xs ih=>simp only[List.map_cons,RL];exact⟨_,_,rfl,hs.eval x,ih⟩
theorem pF{H:List af}{ids:List Nat}{res:Option (aI×List af)}{f:FuncId}{args:List AVal}(h:dW H ids res=some (.defer f args)):False:=by
 unfold dW at h;grind
theorem HS{H:List af}{ids:List Nat}{res:Option (aI×List af)}{f:FuncId}{args:List AVal}(h:uV H ids res=some (.defer f args)):False:=by
 unfold uV at h;grind [pF]
theorem Bj{orc:gF}{H:List af}{ids:List Nat}{z:Bool}{f n:FuncId}{args args':List AVal}(h:finish orc H (if z then .Au n args' ids else .gY n args' ids)=some (.defer f args)):False:=by
 grind [finish,dM,ct,pF,HS]
theorem kI{f : FuncId}{fn : Func}{c : Code}(hf : P.funcs[f]? = some fn)(hb : fn.body = some c)(hn : fn.name ≠ "runtime.NumGoroutine")(args : Array Value) :
 (callFunc f args).run P w=.ok (.enter f args) w:=by
 simp[callFunc,hf,hb,hn]
def jP(Q:Exit→Act→World→Prop)(K:Act→World→Prop)(g:Gh)(s:St)(a:Act)(w:World):dw→Prop
 | .ok s'=>∀g' a' w',dy g' s' a' w'→aK g s.H w g' s'.H w'→K a' w'
 | .aM v s'=>∀g' w' x,v.flat=true→dy g' s' a w'→aK g s.H w g' s'.H w'→R g' w' v x→Q (.panic [{v:=x,recovered:=false}]) a w'
theorem ta{H:List af}{x:AVal}{v:Value}{rows:List (List AVal)}{xs:List Int}(hi:Inv g H w)(hr:R g w x v)(h:(elems x).run H=some rows)(hb:o6 rows=some xs):
 ∃ba:ByteArray,(Extern.Bytes.bytesOf v).run P w=.ok ba w∧ba.data.toList=Lib.bytesOf xs:=by
 have hrows:=vq hb;obtain⟨ad,cap,news,rfl,n1,n2,n3,n4⟩:=kC (sz:=1) hi hr h (fun r hr=>by
  grind)
 have hlen:rows.length=xs.length:=by rw[hrows];simp
 have hflat:rows.flatten=xs.map fun n=>AVal.sc (.int .u8 n):=by
  rw[hrows];clear hrows hb n1 n2 n4 h hr hlen;induction xs with
  |nil=>rfl
  |cons x xs ih=>simp[ih]
 have hnews:news=xs.map fun n=>Value.int .u8 n:=by
  rw[hflat]at n2;clear hflat hrows hb n1 n3 n4 h hr hlen;induction xs generalizing news with
  |nil=>simpa[RL]using n2
  |cons x xs ih=>
   grind [RL,R]
 rcases n4 with h0 |⟨A,rfl,hA⟩
 ·have:xs=[]:=List.eq_nil_of_length_eq_zero (by omega)
  subst this;cases ad with
  |none=>exact⟨.empty,by simp[Extern.Bytes.bytesOf],rfl⟩
  |some A=>exact⟨.empty,by simp[Extern.Bytes.bytesOf,h0,Extern.Bytes.loadBytes],rfl⟩
 ·have:=Lib.run_loadBytesX (P:=P) w xs A .empty (fun j y hj=>hA j _ (by rw[hnews,List.getElem?_map,hj];rfl))
  refine⟨_,by simp only[Extern.Bytes.bytesOf,hlen];exact this,by simp⟩
theorem DB{fn : Func}(h : yc fn = true) : Extern.findNext fn = none ∧ Extern.find fn = some Extern.BytealgCompare.compare ∧ (fn.name == "runtime.NumGoroutine") = false := by
 unfold yc at h;simp only[Bool.and_eq_true,Bool.or_eq_true,beq_iff_eq]at h;obtain⟨h1,h2⟩:=h;unfold Extern.findNext Extern.find;simp only[h1];refine⟨?_,?_,by decide⟩
 ·have e1 : Extern.allNextRows.lookup "internal/bytealg.Compare" = none := by kernel_rfl
  have e2 : Extern.allNextRows.lookup "" = none := by kernel_rfl
  grind
 ·have e1 : Extern.allGenericRows.lookup "internal/bytealg.Compare" = none := by kernel_rfl
  have e2 : Extern.allTypedRows.lookup "internal/bytealg.Compare" = none := by kernel_rfl
  have e3 : Extern.allRows.lookup "internal/bytealg.Compare" = some Extern.BytealgCompare.compare := by kernel_rfl
  simp[e1,e2,e3]
theorem yf{H:List af}{fn:Func}{n:Nat}{args:List AVal}{vs:Array Value}{pre:Pre}(hi:Inv g H w)(hl:RL g w args vs.toList)(hf:P.funcs[n]? =some fn)(hb:fn.body.isNone=true)(h:(Av fn args).run H=some pre):
 ∃z:Int,pre=.aT {val:=.sc (.int .i64 z)}∧(callFunc n vs).run P w=.ok (.value (.int .i64 z)) w:=by
 unfold Av at h;split at h
 ·rename_i hc;obtain⟨c1,c2,c3⟩:=DB hc;split at h
  ·rename_i x y;obtain⟨ra,ha,h⟩:=bind_some h;obtain⟨rb,hb2,h⟩:=bind_some h;split at h
   ·rename_i xs ys hx hy;simp only[Rd.run,Option.some.injEq]at h;subst h;refine⟨_,rfl,?_⟩;simp only[RL]at hl;obtain⟨vx,l1,e1,hrx,vy,l2,rfl,hry,rfl⟩:=hl;obtain⟨ba,p1,p2⟩:=ta (P:=P) hi hrx ha hx;obtain⟨bb,q1,q2⟩:=ta (P:=P) hi hry hb2 hy;have hvs:vs= #[vx,vy]:=by apply Array.toList_inj.1;rw[e1]
    rw[run_callFunc_extern hf c3 hb c1 c2,hvs];have:(Extern.BytealgCompare.compare #[vx,vy]).run P w=.ok (.int .i64 (Lib.compareBytes (Lib.bytesOf xs) (Lib.bytesOf ys))) w:=by
     change Sem.run P (do pure (goInt (Extern.BytealgCompare.cmp (← Extern.Bytes.bytesOf vx) (← Extern.Bytes.bytesOf vy)))) w=_
     simp only[Sem.run_bind,p1,q1,Result.andThen_ok,Sem.run_pure];rw[Lib.cmp_eq,p2,q2];rfl
    rw[this];rfl
   ·simp[Rd.run]at h
  ·simp[Rd.run]at h
 ·simp[Rd.run]at h
def Calm(ro:Option Nat)(o:Oper):Prop:=ro=none∨v7 o=false
theorem Calm.semAt{ro:Option Nat}{o:Oper}(h:Calm ro o)(ρ:Operand→Value):o.semAt (Fr ro).round ρ=execOp ρ o:=by
 unfold Oper.semAt;rcases h with rfl |h
 ·simp[Fr]
 grind [Fr,v7]
theorem vt{k:Nat}{rec:Loop}{f:Operand}{args:Array Operand}{tys:Array TypeId}{o:Oper}(ho:o.op=.call {callee:=.value f,args:=args,argTypes:=tys})(hf:a.eval f=.func (.yield k) #[] #[])
 (hk:w.heap[k]? =some (.loop rec)) (hsz:(args.map a.eval).size=rec.params.size):(execOp a.eval o).run P w=.ok (.round k rec.fn (iY rec (args.map a.eval)) rec.assign rec.body) w:=by
 have hy:=Go.run_yield (P:=P) hk hsz;simp only[execOp,ho,resolve,hf,Deferred.ofValue,invoke];simpa[iY]using hy
theorem k7{ro:Option Nat}(ho:eW P orc)(hs:dy g s a w){i n0 nid:Nat}{o:Oper}{r:dw}{f:eV}{K:Act→World→Prop}{Q:Exit→Act→World→Prop}(hi:ops[i]? =some o)(hcalm:Calm ro o)
 (h:dx P cfg orc ops n0 o nid s=some (r,f)) (hK:jP Q K g s a w r):wpOpIn (Fr ro) 0 P ops Q i K a w:=by
 unfold dx at h;dsimp only at h;unfold wpOpIn;simp only[hi];split at h
 ·cases h
 ·rename_i hw;rw[kH hs hw];simp only[mE]at h;have hr:r=.ok {s with A:=fG s.A o.dst nothing}:=by
   cases hd:o.dst<;>simp[hd,kD]at h<;>simp[fG,← h.1]
  subst hr;simp only[Bool.false_eq_true,if_false];refine⟨fun _ _=>trivial,?_⟩
  exact hK g _ w ⟨hs.inv,jb hs.tmps uY o.dst,by rw[put_defers];exact hs.defs⟩ (aK.refl _ _ _)
 ·rename_i hw;rw[kH hs hw];simp only[if_true];refine⟨fun _ _=>trivial,?_⟩
  rw[hcalm.semAt];split at h
  ·cases h
  ·rename_i pre hpre;split at h
   ·cases h
   ·
    rename_i v ids hfin;simp at h;obtain⟨rfl,-⟩:=h;rcases oa hpre with⟨e,rfl,_⟩ |⟨fo,args,tys,n,p,q,hop,hf,hc,hceq⟩ |⟨fo,args,tys,n,p,q,hop,hf,rfl⟩ |⟨x,t,u,hop,hx,hfl,rfl⟩ |⟨fo,args,tys,b,ids',hop,hf,rfl⟩ |⟨fo,args,tys,n,p,q,fnx,hop,hf,hfx,hbx,hcx⟩
    ·simp[finish]at hfin
    ·
     have hev:=hs.eval fo;rw[hf]at hev;simp only[R]at hev;obtain⟨va,vb,hfo,l1,l2⟩:=hev;have hl:RL g w (p++args.toList.map (bQ s.A)++q) ((va.toArray++args.map a.eval)++vb.toArray).toList:=by
      simp only[Array.toList_append,Array.toList_map];exact dn (dn l1 (jO hs args)) l2
     have key : (∃ fn c, P.funcs[n]? = some fn ∧ fn.body = some c ∧ fn.name ≠ "runtime.NumGoroutine") ∧ v.flat = true ∧ Calls P n ((va.toArray ++ args.map a.eval) ++ vb.toArray) w fun e w' => ∃ x, e = .panicked [{ v := x, recovered := false }] ∧ Inv g (ids.foldl (fun H i => H.set i .dead) s.H) w' ∧ R g w' v x ∧ aK g s.H w g (ids.foldl (fun H i => H.set i .dead) s.H) w' := by
      unfold kE at hc;split at hc
      ·obtain⟨args',h1,h2⟩:=bind_some hc;grind [Rd.run,Bf,hs.inv]
      ·obtain⟨ids',h1,h2⟩:=bind_some hc;simp only[Rd.run,Option.some.injEq]at h2;subst h2;obtain⟨k1,⟨v',he,_⟩ |⟨v',he,hfl,k2⟩⟩:=Bh ho hs.inv hl hfin
       ·cases he
       ·cases he;exact⟨k1,hfl,k2⟩
     obtain⟨⟨fn,c,k1,k2,k3⟩,hfl,hcalls⟩:=key;have hex:(execOp a.eval o).run P w=.ok (.enter n ((va.toArray++args.map a.eval)++vb.toArray)) w:=by
      simp[execOp,hop,resolve,hfo,Deferred.ofValue,invoke,kI k1 k2 k3]
     rw[hex];simp only[Oper.uponIn];refine⟨k6 ro,tV (hcalls.mono ?_)⟩;rintro e w' ⟨x,rfl,hi',hr,hla⟩;exact hK g w' x hfl ⟨hi',bq hla.ext _ _ hs.tmps,cT hla.ext _ _ hs.defs⟩ hla hr
    ·simp[finish]at hfin
    ·simp[finish]at hfin;obtain⟨rfl,rfl⟩:=hfin;have hev:=hs.eval x;rw[hx]at hev;have hev':=hev;simp only[R]at hev';obtain⟨y,hy,_⟩:=hev';have hex:(execOp a.eval o).run P w=.halt (.panic (.iface t y)) w:=by
      simp[execOp,hop,hy,Instr.panic]
     rw[hex];simp only[Oper.uponIn];rw[hy]at hev;exact hK g w _ (by simpa[AVal.flat]using hfl) hs (aK.refl _ _ _) hev
    ·
     have hev:=hs.eval fo;rw[hf]at hev;simp only[R]at hev;obtain⟨k,sz,hk,hfo⟩:=hev;have hl:RL g w (args.toList.map (bQ s.A)) (args.map a.eval).toList:=by
      simp only[Array.toList_map];exact jO hs args
     obtain⟨rec,r1,r2,⟨aT,he,_⟩ |⟨v',he,hfl,hround⟩⟩:=Bi ho hs.inv hl hk hfin
     ·cases he
     ·cases he;rw[vt hop hfo r1 r2];simp only[Oper.uponIn];refine⟨k6 ro,Aw (hround.mono ?_)⟩;rintro e w' ⟨x,rfl,hi',hr,hla⟩;exact hK g w' x hfl ⟨hi',bq hla.ext _ _ hs.tmps,cT hla.ext _ _ hs.defs⟩ hla hr
    ·exfalso;have hev:=hs.eval fo;rw[hf]at hev;simp only[R]at hev;obtain⟨va,vb,hfo,l1,l2⟩:=hev;have hl:RL g w (p++args.toList.map (bQ s.A)++q) ((va.toArray++args.map a.eval)++vb.toArray).toList:=by
      simp only[Array.toList_append,Array.toList_map];exact dn (dn l1 (jO hs args)) l2
     grind [yf,hs.inv,finish]
   ·
    rename_i e hfin;have hr:r=.ok {s with A:=fG s.A o.dst e.val,H:=e.apply s.H}:=by
     rw[gR]at h;simp only[mE,dr]at h;cases hd:o.dst<;>simp[hd,kD]at h<;>simp[fG,← h.1]
    subst hr;rcases oa hpre with⟨e',rfl,hop,hal⟩ |⟨fo,args,tys,n,p,q,hop,hf,hc,hceq⟩ |⟨fo,args,tys,n,p,q,hop,hf,rfl⟩ |⟨x,t,u,hop,hx,hfl,rfl⟩ |⟨fo,args,tys,b,ids',hop,hf,rfl⟩ |⟨fo,args,tys,n,p,q,fnx,hop,hf,hfx,hbx,hcx⟩
    ·simp[finish]at hfin;subst hfin;obtain⟨v,w',g',hex,hi',hr,hla⟩:=Kk hs.inv hs.eval hal hop;have hsim:dy g' {s with A:=fG s.A o.dst e'.val,H:=e'.apply s.H} (a.put o.dst v) w':=
      ⟨hi',jb (bq hla.ext _ _ hs.tmps) hr o.dst,by rw[put_defers];exact cT hla.ext _ _ hs.defs⟩
     rcases hex with hex |⟨hex,rfl⟩<;>rw[hex]<;>exact hK g' _ w' hsim hla
    ·have hev:=hs.eval fo;rw[hf]at hev;simp only[R]at hev;obtain⟨va,vb,hfo,l1,l2⟩:=hev;have hl:RL g w (p++args.toList.map (bQ s.A)++q) ((va.toArray++args.map a.eval)++vb.toArray).toList:=by
      simp only[Array.toList_append,Array.toList_map];exact dn (dn l1 (jO hs args)) l2
     have key : (∃ fn c, P.funcs[n]? = some fn ∧ fn.body = some c ∧ fn.name ≠ "runtime.NumGoroutine") ∧ Calls P n ((va.toArray ++ args.map a.eval) ++ vb.toArray) w fun en w' => ∃ x g', en = .returned x ∧ Inv g' (e.apply s.H) w' ∧ R g' w' e.val x ∧ aK g s.H w g' (e.apply s.H) w' := by
      unfold kE at hc;split at hc
      ·obtain⟨args',h1,h2⟩:=bind_some hc;grind [Rd.run,Bf,hs.inv,cF.apply]
      ·obtain⟨ids',h1,h2⟩:=bind_some hc;simp only[Rd.run,Option.some.injEq]at h2;subst h2;obtain⟨k1,⟨v',he,k2⟩ |⟨v',he,_⟩⟩:=Bh ho hs.inv hl hfin
       ·cases he;exact⟨k1,k2⟩
       ·cases he
     obtain⟨⟨fn,c,k1,k2,k3⟩,hcalls⟩:=key;have hex:(execOp a.eval o).run P w=.ok (.enter n ((va.toArray++args.map a.eval)++vb.toArray)) w:=by
      simp[execOp,hop,resolve,hfo,Deferred.ofValue,invoke,kI k1 k2 k3]
     rw[hex];simp only[Oper.uponIn];refine⟨k6 ro,tV (hcalls.mono ?_)⟩;rintro en w' ⟨x,g',rfl,hi',hr,hla⟩;exact hK g' _ w' ⟨hi',jb (bq hla.ext _ _ hs.tmps) hr o.dst,by rw[put_defers];exact cT hla.ext _ _ hs.defs⟩ hla
    ·simp[finish]at hfin
    ·simp[finish]at hfin
    ·have hev:=hs.eval fo;rw[hf]at hev;simp only[R]at hev;obtain⟨k,sz,hk,hfo⟩:=hev;have hl:RL g w (args.toList.map (bQ s.A)) (args.map a.eval).toList:=by
      simp only[Array.toList_map];exact jO hs args
     obtain⟨rec,r1,r2,⟨aT,he,hround⟩ |⟨v',he,_⟩⟩:=Bi ho hs.inv hl hk hfin
     ·cases he;rw[vt hop hfo r1 r2];simp only[Oper.uponIn];refine⟨k6 ro,Aw (hround.mono ?_)⟩;rintro en w' ⟨x,g',rfl,hi',hr,hla⟩;exact hK g' _ w' ⟨hi',jb (bq hla.ext _ _ hs.tmps) hr o.dst,by rw[put_defers];exact cT hla.ext _ _ hs.defs⟩ hla
     ·cases he
    ·
     have hev:=hs.eval fo;rw[hf]at hev;simp only[R]at hev;obtain⟨va,vb,hfo,l1,l2⟩:=hev;have hl:RL g w (p++args.toList.map (bQ s.A)++q) ((va.toArray++args.map a.eval)++vb.toArray).toList:=by
      simp only[Array.toList_append,Array.toList_map];exact dn (dn l1 (jO hs args)) l2
     obtain⟨z,rfl,hcall⟩:=yf (P:=P) hs.inv hl hfx hbx hcx;simp[finish]at hfin;subst hfin;have hex:(execOp a.eval o).run P w=.ok (.value (.int .i64 z)) w:=by
      simp only[execOp,hop,resolve,hfo,Deferred.ofValue];simpa[invoke]using hcall
     rw[hex];simp only[Oper.uponIn];have hap:({val:=.sc (.int .i64 z)}:cF).apply s.H=s.H:=by simp[cF.apply]
     refine hK g _ w ⟨?_,jb hs.tmps (by simp[R]) o.dst,by rw[put_defers];exact hs.defs⟩ ?_
     ·rw[hap];exact hs.inv
     ·rw[hap];exact aK.refl _ _ _
   ·
    rename_i fd args' hfin;have hr:r=.ok {s with A:=fG s.A o.dst nothing,D:=.call fd args'::s.D}:=by
     simp only[mE,dM]at h;cases hd:o.dst<;>simp[hd,kD]at h<;>simp[fG,← h.1]
    subst hr;rcases oa hpre with⟨e',rfl,hop,hal⟩ |⟨fo,args,tys,n,p,q,hop,hf,hc,hceq⟩ |⟨fo,args,tys,n,p,q,hop,hf,rfl⟩ |⟨x,t,u,hop,hx,hfl,rfl⟩ |⟨fo,args,tys,b,ids',hop,hf,rfl⟩ |⟨fo,args,tys,n,p,q,fnx,hop,hf,hfx,hbx,hcx⟩
    ·simp[finish]at hfin
    ·exfalso;unfold kE at hc;split at hc
     ·obtain⟨args2,h1,h2⟩:=bind_some hc;grind [Rd.run,finish,dM]
     ·obtain⟨ids',h1,h2⟩:=bind_some hc;simp only[Rd.run,Option.some.injEq]at h2;subst h2;exact Bj hfin
    ·simp[finish]at hfin;obtain⟨rfl,rfl⟩:=hfin;have hev:=hs.eval fo;rw[hf]at hev;simp only[R]at hev;obtain⟨va,vb,hfo,l1,l2⟩:=hev;have hex:(execOp a.eval o).run P w=.ok (.defer {target:=.fn (.func n) vb.toArray,args:=va.toArray++args.map a.eval}) w:=by
      simp[execOp,hop,resolve,hfo,Deferred.ofValue]
     rw[hex];simp only[Oper.uponIn];refine hK g _ w ⟨hs.inv,jb (a:={tmps:=a.tmps,defers:={target:=.fn (.func n) vb.toArray,args:=va.toArray++args.map a.eval}::a.defers}) hs.tmps uY o.dst,?_⟩ (aK.refl _ _ _);rw[put_defers];refine⟨_,_,rfl,⟨vb.toArray,rfl,?_⟩,hs.defs⟩;simp only[Array.toList_append,Array.toList_map];grind [dn,jO]
    ·simp[finish]at hfin
    ·grind [finish,dM,ct,pF]
    ·exfalso;have hev:=hs.eval fo;rw[hf]at hev;simp only[R]at hev;obtain⟨va,vb,hfo,l1,l2⟩:=hev;have hl:RL g w (p++args.toList.map (bQ s.A)++q) ((va.toArray++args.map a.eval)++vb.toArray).toList:=by
      simp only[Array.toList_append,Array.toList_map];exact dn (dn l1 (jO hs args)) l2
     grind [yf,hs.inv,finish]
end
end Go.AM
end
section
namespace Go.AM
section
variable {S L V:Type} {get:S→L→V} {st:Nat→S} {n N:Nat} {Rd W:Nat→L→Prop} {ql:Nat→Nat→Prop}
def rS(get:S→L→V)(st:Nat→S)(W:Nat→L→Prop)(s:S)(D:Nat→Prop):Prop:=
 ∀l,(∃k,D k∧W k l∧(∀k',D k'→k<k'→¬W k' l)∧get s l=get (st (k+1)) l)∨((∀k,D k→¬W k l)∧get s l=get (st 0) l)
theorem wS{s s':S}{D D':Nat→Prop}(h:rS get st W s D)(h':rS get st W s' D'){l:L}(hd:∀k,W k l→(D k↔D' k)):get s l=get s' l:=by
 rcases h l with⟨k,h1,h2,h3,h4⟩ |⟨h1,h2⟩<;>rcases h' l with⟨k',g1,g2,g3,g4⟩ |⟨g1,g2⟩
 ·grind
 ·exact absurd h2 (g1 k ((hd k h2).1 h1))
 ·grind
 ·exact h2.trans g2.symm
theorem FC:rS get st W (st 0) (fun _=>False):=fun _=>.inr ⟨fun _ h=>h.elim,rfl⟩
theorem pG(frame:∀j,j<n→∀l,¬W j l→get (st (j+1)) l=get (st j) l):∀j,j≤n→rS get st W (st j) (fun k=>k<j)
 | 0,_,_=>.inr ⟨fun k h=>absurd h (by omega),rfl⟩
 |j+1,hj,l=>by
  by_cases hw:W j l
  ·grind
  ·have hf:=frame j (by omega) l hw
   rcases pG frame j (by omega) l with⟨k,h1,h2,h3,h4⟩ |⟨h1,h2⟩
   ·grind
   grind
variable {s:S} {D:Nat→Prop} {j:Nat}
theorem Bk(frame:∀j,j<n→∀l,¬W j l→get (st (j+1)) l=get (st j) l)
 (ind:∀i j,i<j→j<N→¬ql i j→∀l,¬(W i l∧Rd j l)∧¬(W i l∧W j l)∧¬(Rd i l∧W j l))
 (h:rS get st W s D) (hD:∀k,D k→k<N) (hdown:∀k k',D k→ql k' k→D k') (hj:j≤n) (hjN:j<N) (hnot:¬D j) (hready:∀k,ql k j→D k)
 {l:L} (hr:Rd j l):get s l=get (st j) l:=by
 refine wS h (pG frame j hj) fun k hw=>⟨fun hk=>?_,fun hk=>?_⟩
 ·grind
 grind
theorem GI(ind:∀i j,i<j→j<N→¬ql i j→∀l,¬(W i l∧Rd j l)∧¬(W i l∧W j l)∧¬(Rd i l∧W j l))
 (h:rS get st W s D) (hD:∀k,D k→k<N) (hdown:∀k k',D k→ql k' k→D k') (hnot:¬D j)
 {s':S} (hw:∀l,W j l→get s' l=get (st (j+1)) l) (hf:∀l,¬W j l→get s' l=get s l):rS get st W s' (fun k=>D k∨k=j):=by
 intro l;by_cases hwl:W j l
 ·grind
 ·rcases h l with⟨k,h1,h2,h3,h4⟩ |⟨h1,h2⟩
  ·grind
  grind
end
theorem En(ops:List Edge)(look:Nat→Nat)(i:Nat):∀(acc:Nat),(ops.foldl (fun s e=>if Region.binds .any e then s||| 2 ^ e.on|||look e.on else s) acc).testBit i=true→
 acc.testBit i=true∨∃e∈ops,Region.binds .any e=true∧(e.on=i∨(look e.on).testBit i=true):=by
 induction ops with
 |nil=>intro acc h;exact .inl h
 |cons e es ih=>
  grind
theorem zS:∀(l:List Oper) (j:Nat) (acc:List Nat),acc.length=j→
 (∀(m:Nat) (i:Nat),(CheckFast.beforeL l j acc)[m]? =none∨(m<j∧(CheckFast.beforeL l j acc)[m]? =acc[j - 1 - m]?)∨
  (j≤m∧∃o v,l[m - j]? =some o∧(CheckFast.beforeL l j acc)[m]? =some v∧(v.testBit i=true→∃e∈o.after,Region.binds .any e=true∧(e.on=i∨(e.on<m∧∃u,(CheckFast.beforeL l j acc)[e.on]? =some u∧u.testBit i=true)))))
 | [],j,acc,hl,m,i=>by
  simp only[CheckFast.beforeL];grind
 |o::l,j,acc,hl,m,i=>by
  simp only[CheckFast.beforeL,CheckFast.force_eq];generalize hv:CheckFast.one (fun i=>if i<j then acc.getD (j - 1 - i) 0 else 0) o=v
  have ih:=zS l (j+1) (v::acc) (by simp[hl])
  have hprev:∀m',m'<j→(CheckFast.beforeL l (j+1) (v::acc))[m']? =none∨(CheckFast.beforeL l (j+1) (v::acc))[m']? =acc[j - 1 - m']? :=by
   intro m' hm';rcases ih m' i with h |⟨_,h⟩ |⟨h,_⟩
   ·exact .inl h
   ·grind
   ·omega
  have hlen:∀(l:List Oper) (j:Nat) (acc:List Nat),acc.length=j→(CheckFast.beforeL l j acc).length=j+l.length:=by
   intro l;induction l with
   |nil=>intro j acc h;simp[CheckFast.beforeL,h]
   |cons o l ih=>intro j acc h;simp only[CheckFast.beforeL,CheckFast.force_eq];rw[ih _ _ (by simp[h])];simp;omega
  rcases ih m i with h |⟨h1,h⟩ |⟨h1,o',v',h2,h3,h4⟩
  ·exact .inl h
  ·by_cases hm:m=j
   ·subst hm;right;right;refine⟨Nat.le_refl _,o,v,by simp,?_,fun hb=>?_⟩
    ·rw[h];simp
    ·rw[← hv]at hb;unfold CheckFast.one at hb;rw[← Array.foldl_toList]at hb;rcases En o.after.toList (fun i=>if i<m then acc.getD (m - 1 - i) 0 else 0) i 0 hb with hb |⟨e,he,hbi,hb⟩
     ·simp at hb
     grind
   grind
  grind
theorem GJ{ops:Array Oper}{j i:Nat}(h:((CheckFast.beforeF ops).getD j 0).testBit i=true):
 ∃o,ops[j]? =some o∧∃e∈o.after,Region.binds .any e=true∧(e.on=i∨(e.on<j∧((CheckFast.beforeF ops).getD e.on 0).testBit i=true)):=by
 have hg:∀m,(CheckFast.beforeF ops).getD m 0=((CheckFast.beforeL ops.toList 0 [])[m]?).getD 0:=by
  intro m;simp[CheckFast.beforeF]
 rw[hg]at h;rcases zS ops.toList 0 [] rfl j i with h1 |⟨h1,_⟩ |⟨_,o,v,h2,h3,h4⟩
 ·rw[h1]at h;simp at h
 ·omega
 grind
theorem xF{ops:Array Oper}{D:Nat→Prop}(hdown:∀k o e,D k→ops[k]? =some o→e∈o.after→Region.binds .any e=true→D e.on)(j:Nat){i:Nat}
 (hj:∀o e,ops[j]? =some o→e∈o.after→Region.binds .any e=true→D e.on) (h:((CheckFast.beforeF ops).getD j 0).testBit i=true):D i:=by
 induction j using Nat.strongRecOn with
 |_ j ih=>
  obtain⟨o,ho,e,he,hb,hx⟩:=GJ h;grind
end Go.AM
end
section
namespace Go.AM
section
variable [ax] {P:Program} {cfg:dV} {nid:Nat} {ai rho':Operand→AVal}
theorem map_congr{l:List Operand}(h:∀x∈l,ai x=rho' x):l.map ai=l.map rho':=List.map_congr_left h
theorem HT{op:Op}(h:∀x∈op.operands,ai x=rho' x):bN P nid ai op=bN P nid rho' op:=by
 cases op<;>simp only[Op.operands]at h
 case build T ps=>
  simp only[bN];rw[show(ps.toList.map fun p=>(p.1,ai p.2))=ps.toList.map fun p=>(p.1,rho' p.2)from List.map_congr_left fun p hp=>by grind]
 case buildSlice T n ps=>
  simp only[bN];rw[show(ps.toList.map fun p=>(p.1,ai p.2))=ps.toList.map fun p=>(p.1,rho' p.2)from List.map_congr_left fun p hp=>by grind]
 case makeFunc f a b=>
  grind [bN,map_congr]
 case makeMap T r=>cases r<;>simp_all [bN]
 case slice T x lo hi mx=>
  have hx:ai x=rho' x:=h x (by simp)
  have hlo:lo.map ai=lo.map rho':=by cases lo<;>simp_all
  have hhi:hi.map ai=hi.map rho':=by cases hi<;>simp_all
  cases mx with
  |none=>simp only[bN];rw[hx,hlo,hhi]
  |some m=>grind [bN]
 case binOp op T x y yT=>
  have hx:ai x=rho' x:=h x (by simp)
  have hy:ai y=rho' y:=h y (by simp)
  cases y with
  |const v=>cases v<;>simp only[bN,hx,hy]
  |_=>simp only[bN,hx,hy]
 case call c=>
  obtain⟨cal,args,tys⟩:=c;cases cal with
  |value f=>rfl
  |invoke r m=>rfl
  |builtin b=>
   have hargs:∀(i:Nat) (x:Operand),args[i]? =some x→ai x=rho' x:=fun i x hx=>h x (by simp[Call.operands];exact Array.mem_of_getElem? hx)
   cases b<;>try rfl
   case len=>
    simp only[bN];split
    ·grind
    ·rfl
   case append=>
    grind [bN]
   case clear=>
    grind [bN]
   case min=>
    grind [bN]
   grind [bN]
 all_goals (first |rfl | (simp_all [bN];done))
theorem FD{op:Op}(h:∀x∈op.operands,ai x=rho' x):bf P cfg nid ai op=bf P cfg nid rho' op:=by
 have hA:=HT (P:=P) (nid:=nid) h;cases op<;>simp only[Op.operands]at h
 case call c=>
  obtain⟨cal,args,tys⟩:=c;cases cal with
  |value f=>
   have hf:ai f=rho' f:=h f (by simp[Call.operands])
   have hargs:args.toList.map ai=args.toList.map rho':=map_congr fun x hx=>h x (by simp[Call.operands]at hx ⊢;exact .inr hx)
   simp only[bf,hf,hargs]
  |invoke r m=>simp only[bf,hA]
  |builtin b=>simp only[bf,hA]
 case defer c=>
  obtain⟨cal,args,tys⟩:=c;cases cal with
  |value f=>
   have hf:ai f=rho' f:=h f (by simp[Call.operands])
   have hargs:args.toList.map ai=args.toList.map rho':=map_congr fun x hx=>h x (by simp[Call.operands]at hx ⊢;exact .inr hx)
   simp only[bf,callee,hf,hargs]
  |invoke r m=>simp only[bf,hA]
  |builtin b=>simp only[bf,hA]
 case panic x=>
  grind [bf]
 all_goals simp only[bf,hA]
end
theorem CZ{α:Type}{H H':List af}:∀(m:Rd α),(∀b∈m.reads H,H'[b]? =H[b]?)→m.run H'=m.run H∧m.reads H'=m.reads H
 | .fail,_=>⟨rfl,rfl⟩
 | .done _,_=>⟨rfl,rfl⟩
 | .get b k,h=>by
  have hb:H'[b]? =H[b]? :=h b (by simp[Rd.reads])
  simp only[Rd.run,Rd.reads,hb];cases hx:H[b]? with
  |none=>exact⟨rfl,rfl⟩
  |some x=>
   obtain⟨h1,h2⟩:=CZ (k x) fun c hc=>h c (by simp[Rd.reads,hx,hc])
   exact⟨h1,by simp[h2]⟩
theorem wT{α β:Type}{H:List af}{m:Rd α}{f:α→Rd β}{x:α}(h:m.run H=some x):(m.bind f).reads H=m.reads H++(f x).reads H:=by
 induction m with
 |fail=>simp[Rd.run]at h
 |done a=>grind [Rd.run,Rd.bind,Rd.reads]
 |get b k ih=>
  grind [Rd.run,Rd.bind,Rd.reads]
theorem ov{H:List af}:∀(n:Nat) (todo seen out:List Nat),(closure n todo seen).run H=some out→∀b∈out,b∈seen∨b∈(closure n todo seen).reads H
 |_,[],seen,out,h,b,hb=>by
  grind [closure,Rd.run]
 | 0,_::_,seen,out,h,b,hb=>by simp[closure,Rd.run]at h
 |n+1,c::todo,seen,out,h,b,hb=>by
  unfold closure at h ⊢;split at h
  ·rename_i hc;rw[if_pos hc];exact ov n todo seen out h b hb
  ·rename_i hc;rw[if_neg hc];simp only[Rd.run,Rd.reads]at h ⊢;cases hx:H[c]? with
   |none=>rw[hx]at h;cases h
   |some x=>
    rw[hx]at h;have key:∀todo',(closure n todo' (c::seen)).run H=some out→b∈seen∨b∈c::(closure n todo' (c::seen)).reads H:=by
     intro todo' h';rcases ov n todo' (c::seen) out h' b hb with hm |hm
     ·grind
     ·exact .inr (List.mem_cons_of_mem _ hm)
    grind
def oG(u:List (Nat×af))(H:List af):List af:=u.foldl (fun H p=>H.set p.1 p.2) H
theorem oH:∀(u:List (Nat×af)) (H:List af),(oG u H).length=H.length
 | [],_=>rfl
 |p::u,H=>by have:=oH u (H.set p.1 p.2);simpa[oG]using this
theorem Ay{b:Nat}:∀(u:List (Nat×af)) (H:List af),b∉u.map (·.1)→(oG u H)[b]? =H[b]?
 | [],_,_=>rfl
 |p::u,H,h=>by
  simp only[List.map_cons,List.mem_cons,not_or]at h;have:=Ay u (H.set p.1 p.2) h.2;grind [oG]
theorem yg{b:Nat}:∀(u:List (Nat×af)) (H H':List af),H[b]? =H'[b]? →(oG u H)[b]? =(oG u H')[b]?
 | [],_,_,h=>h
 |p::u,H,H',h=>by
  have hs:(H.set p.1 p.2)[b]? =(H'.set p.1 p.2)[b]? :=by
   by_cases he:p.1=b
   ·grind
   ·grind
  exact yg u _ _ hs
theorem F6{b:Nat}:∀(u:List (Nat×af)) (H H':List af),b<H.length→b<H'.length→b∈u.map (·.1)→(oG u H)[b]? =(oG u H')[b]?
 |p::u,H,H',h1,h2,hm=>by
  by_cases hu:b∈u.map (·.1)
  ·exact F6 u _ _ (by simpa using h1) (by simpa using h2) hu
  ·have he:b=p.1:=by
    simp only[List.map_cons,List.mem_cons]at hm;exact hm.resolve_right hu
   subst he;refine yg u _ _ ?_;grind
end Go.AM
end
section
namespace Go.AM
inductive Loc where
 |qm (t:Nat)
 |blk (b:Nat)
 |rest
inductive LVal where
 |a (x:Option AVal)
 |b (x:Option af)
 |t (l:List af)
 |r (n:Nat) (D:List nG)
def look(n0:Nat)(s:St):Loc→LVal
 | .qm t=>.a s.A[t]?
 | .blk b=>if b<n0 then .b s.H[b]? else .t (s.H.drop n0)
 | .rest=>.r s.A.length s.D
def zT(ops:Array Oper)(n0:Nat)(o:Oper)(f:eV):Loc→Prop
 | .qm t=>t∈o.looksAt ops
 | .blk b=>(if b<n0 then b else n0)∈f.reads
 | .rest=>True
def WL(n0:Nat)(o:Oper)(f:eV):Loc→Prop
 | .qm t=>o.dst=some t
 | .blk b=>(if b<n0 then b else n0)∈f.writes
 | .rest=>False
theorem Kl(n0 b:Nat):(if cut n0 b<n0 then cut n0 b else n0)=cut n0 b:=by
 grind [cut]
theorem Eo{n0:Nat}{s s':St}(h:∀l,look n0 s l=look n0 s' l):s=s':=by
 obtain⟨A,H,D⟩:=s;obtain⟨A',H',D'⟩:=s';have hr:=h .rest;simp only[look,LVal.r.injEq]at hr;obtain⟨_,rfl⟩:=hr;have hA:A=A':=by
  apply List.ext_getElem?;intro i;have:=h (.qm i);simpa[look]using this
 have hH:H=H':=by
  have ht:=h (.blk n0);simp only[look,Nat.lt_irrefl,if_false,LVal.t.injEq]at ht;apply List.ext_getElem?;intro i;by_cases hi:i<n0
  ·have:=h (.blk i);simpa[look,hi]using this
  ·have h1:H[i]? =(H.drop n0)[i - n0]? :=by rw[List.getElem?_drop];congr 1;omega
   grind
 subst hA;subst hH;rfl
section
variable [ax] {P:Program} {cfg:dV} {orc:gF} {ops:Array Oper} {n0 nid:Nat} {o:Oper} {s s2:St}
theorem Ep{b:Nat}(h:look n0 s2 (.blk (cut n0 b))=look n0 s (.blk (cut n0 b))):s2.H[b]? =s.H[b]? :=by
 unfold cut at h;by_cases hb:b<n0
 ·simpa[look,hb]using h
 ·simp only[hb,if_false,look,Nat.lt_irrefl,LVal.t.injEq]at h;have h1:s.H[b]? =(s.H.drop n0)[b - n0]? :=by rw[List.getElem?_drop];congr 1;omega
  grind
theorem Er(h:look n0 s2 (.blk n0)=look n0 s (.blk n0))(h1:n0≤s.H.length)(h2:n0≤s2.H.length):s2.H.length=s.H.length:=by
 simp only[look,Nat.lt_irrefl,if_false,LVal.t.injEq]at h;have:=congrArg List.length h;grind
theorem wU{ids:List Nat}{H H':List af}(hl:H'.length=H.length)(h:∀b∈ids,H'[b]? =H[b]?):mask ids H'=mask ids H:=by
 apply List.ext_getElem?;grind [rR,lY,we]
def Pre.ids:Pre→List Nat
 | .gY _ _ ids=>ids
 | .Au _ _ ids=>ids
 | .round _ _ ids=>ids
 |_=>[]
theorem tW{H H':List af}{ids:List Nat}{res:Option (aI×List af)}(h:H'.length=H.length):dW H' ids res=dW H ids res:=by
 unfold dW;rw[h]
theorem Es{pre:Pre}{H H':List af}(h:nY pre=true→H'.length=H.length)(hb:∀b∈pre.ids,H'[b]? =H[b]?):finish orc H' pre=finish orc H pre:=by
 cases pre with
 |aT e=>rfl
 |tv f args own=>rfl
 |gY f args ids=>
  have hl:=h rfl;have hm:=wU (ids:=ids) hl hb;simp only[finish,dM,ct,hm,tW hl]
 |Au f args ids=>
  have hl:=h rfl;have hm:=wU (ids:=ids) hl hb;have hz:∀res,uV H' ids res=uV H ids res:=fun res=>by
   have hfl:∀H1:List af,(ids.filter fun i=> !qz (H'.getD i .dead) (H1.getD i .dead))=ids.filter fun i=> !qz (H.getD i .dead) (H1.getD i .dead):=fun H1=>
    List.filter_congr fun i hi=>by rw[List.getD_eq_getElem?_getD,List.getD_eq_getElem?_getD,hb i hi,← List.getD_eq_getElem?_getD]
   unfold uV;rw[hl];split
   ·simp only[hfl]
   ·exact tW hl
  simp only[finish,dM,ct,hm,hz]
 |round b args ids=>
  have hl:=h rfl;have hm:=wU (ids:=ids) hl hb;simp only[finish,dM,ct,hm,tW hl]
 |defer f args=>rfl
 |aM v=>rfl
theorem Et{H:List af}{fn:Func}{args:List AVal}{pre:Pre}(h:(Av fn args).run H=some pre):∃e,pre=.aT e:=by
 unfold Av at h;split at h
 ·split at h
  ·obtain⟨ra,ha,h⟩:=bind_some h;obtain⟨rb,hb2,h⟩:=bind_some h;grind [Rd.run]
  ·simp[Rd.run]at h
 ·simp[Rd.run]at h
theorem I6{H:List af}{fn:Func}{args:List AVal}{pre:Pre}(h:(Av fn args).run H=some pre):pre.ids=[]:=by
 obtain⟨e,rfl⟩:=Et h;rfl
theorem HU{H:List af}{ai:Operand→AVal}{op:Op}{pre:Pre}(h:(bf P cfg nid ai op).run H=some pre):
 ∀b∈pre.ids,b∈(bf P cfg nid ai op).reads H:=by
 intro b hb;rcases oa h with⟨e,rfl,_⟩ |⟨fo,args',tys,n,p,q,rfl,hf,hc,hpre⟩ |⟨fo,args',tys,n,p,q,hop,hf,rfl⟩ |⟨x,t,u,hop,hx,hfl,rfl⟩ |⟨fo,args',tys,b',ids',rfl,hf,rfl⟩ |⟨fo,args',tys,n,p,q,fnx,rfl,hf,hfx,hbx,hcx⟩
 ·cases hb
 ·rw[hpre];unfold kE at hc ⊢;split at hc
  ·obtain⟨x,_,h2⟩:=bind_some hc;simp only[Rd.run,Option.some.injEq]at h2;subst h2;cases hb
  ·rename_i hv;rw[if_neg hv];obtain⟨ids',h1,h2⟩:=bind_some hc;simp only[Rd.run,Option.some.injEq]at h2;subst h2;rw[wT h1];have hb':b∈ids':=by split at hb<;>exact hb
   rcases ov _ _ _ _ h1 b hb' with hm |hm
   ·cases hm
   ·exact List.mem_append.2 (.inl hm)
 ·cases hb
 ·cases hb
 ·simp only[bf,hf]at h ⊢;obtain⟨ids2,h1,h2⟩:=bind_some h;simp only[Rd.run,Option.some.injEq,Pre.round.injEq]at h2;obtain⟨-,-,rfl⟩:=h2;rw[wT h1];rcases ov _ _ _ _ h1 b hb with hm |hm
  ·cases hm
  ·exact List.mem_append.2 (.inl hm)
 ·rw[I6 hcx]at hb;cases hb
theorem C0{pre:Pre}{f:eV}{cZ:List Nat}{news:Bool}(hl:n0≤s.H.length)(hl2:n0≤s2.H.length)
 (hpre:(bf P cfg nid (bQ s.A) o.op).run s.H=some pre) (hfoot:f=eF n0 ((bf P cfg nid (bQ s.A) o.op).reads s.H) pre cZ news)
 (h:∀l,zT ops n0 o f l→look n0 s2 l=look n0 s l):
 bf P cfg nid (bQ s2.A) o.op=bf P cfg nid (bQ s.A) o.op∧(bf P cfg nid (bQ s.A) o.op).run s2.H=some pre∧
 (bf P cfg nid (bQ s.A) o.op).reads s2.H=(bf P cfg nid (bQ s.A) o.op).reads s.H∧finish orc s2.H pre=finish orc s.H pre:=by
 have hA:∀t∈o.looksAt ops,s2.A[t]? =s.A[t]? :=fun t ht=>by
  have:=h (.qm t) ht;simpa[look]using this
 have hcongr:bf P cfg nid (bQ s2.A) o.op=bf P cfg nid (bQ s.A) o.op:=by
  refine FD fun x hx=>?_
  cases x with
  |tmp t=>
   have:=hA t (List.mem_append_left _ (List.mem_filterMap.2 ⟨.tmp t,by simpa using hx,rfl⟩))
   grind [bQ]
  |_=>rfl
 have hH:∀b∈(bf P cfg nid (bQ s.A) o.op).reads s.H,s2.H[b]? =s.H[b]? :=fun b hb=>
  Ep (h (.blk (cut n0 b)) (by grind [zT,eF,Kl]))
 obtain⟨r1,r2⟩:=CZ _ hH;refine⟨hcongr,r1.trans hpre,r2,Es (fun hb=>?_) fun b hb=>?_⟩
 ·refine Er (h (.blk n0) ?_) hl hl2;grind [zT,eF]
 ·exact hH b (HU hpre b hb)
theorem yh(h:∀t∈o.looksAt ops,s2.A[t]? =s.A[t]?):fL ops s2.A o=fL ops s.A o:=by
 unfold fL;cases hg:o.guard with
 |none=>rfl
 |some jw=>
  obtain⟨j,want⟩:=jw;simp only
  cases hd:(ops[j]?).bind (·.dst)with
  |none=>rfl
  |some d=>
   have:=h d (List.mem_append_right _ (by rw[hg];simp[hd]))
   simp only[this]
theorem eu{α:Type}(A:List AVal)(d:Option Tmp)(v:AVal)(k:List AVal→α):mE A d v k=k (fG A d v):=by
 cases d<;>simp[mE,fG,kD]
theorem Az(A:List AVal)(d:Option Tmp)(v:AVal):(fG A d v).length=A.length:=by
 cases d<;>simp[fG]
theorem AA{A:List AVal}{d:Option Tmp}{v:AVal}{t:Nat}(h:d≠some t):(fG A d v)[t]? =A[t]? :=by
 cases d with
 |none=>rfl
 |some d=>grind [fG]
theorem F7{A A':List AVal}{d:Option Tmp}{v:AVal}{t:Nat}(h:d=some t)(hl:A'.length=A.length):(fG A' d v)[t]? =(fG A d v)[t]? :=by
 grind [fG]
theorem wV{s1:St}{f:eV}(hl:n0≤s.H.length)(hl2:n0≤s2.H.length)(hd:∀c,o.op≠ .defer c)(h:dx P cfg orc ops n0 o nid s=some (.ok s1,f))
 (hloc:∀l,zT ops n0 o f l→look n0 s2 l=look n0 s l):
 n0≤s1.H.length∧∃s3,dx P cfg orc ops n0 o nid s2=some (.ok s3,f)∧n0≤s3.H.length∧(∀l,WL n0 o f l→look n0 s3 l=look n0 s1 l)∧(∀l,¬WL n0 o f l→look n0 s3 l=look n0 s2 l):=by
 have hA:∀t∈o.looksAt ops,s2.A[t]? =s.A[t]? :=fun t ht=>by
  have:=hloc (.qm t) ht;simpa[look]using this
 have hrest:s2.A.length=s.A.length∧s2.D=s.D:=by
  have:=hloc .rest trivial;simpa[look]using this
 have hw:=yh (ops:=ops) (o:=o) hA;unfold dx at h ⊢;rw[hw];dsimp only at h ⊢;split at h
 ·cases h
 ·rename_i hwf;rw[eu]at h;simp only[Option.some.injEq,Prod.mk.injEq,dw.ok.injEq]at h;obtain⟨rfl,rfl⟩:=h;refine⟨hl,⟨fG s2.A o.dst nothing,s2.H,s2.D⟩,by rw[eu],hl2,fun l hWl=>?_,fun l hWl=>?_⟩
  ·cases l with
   |qm t=>grind [WL,look,F7]
   |blk b=>simp[WL]at hWl
   |rest=>exact hWl.elim
  ·cases l with
   |qm t=>grind [WL,look,AA]
   |blk b=>rfl
   |rest=>simp only[look,Az]
 ·rename_i hwt;split at h
  ·cases h
  ·rename_i pre hpre;split at h
   ·cases h
   ·simp at h
   ·rename_i e hfin;rw[gR,eu,dr]at h;simp only[Option.some.injEq,Prod.mk.injEq,dw.ok.injEq]at h;obtain⟨rfl,hf⟩:=h;obtain⟨p1,p2,p3,p4⟩:=C0 (orc:=orc) (ops:=ops) hl hl2 hpre hf.symm hloc;rw[p1,p2];dsimp only;rw[p4,hfin];dsimp only;have hlen:∀(s:St),(e.apply s.H).length=s.H.length+e.news.length:=fun s=>by
     have:=oH e.cZ s.H;grind [oG,cF.apply]
    refine⟨by grind,⟨fG s2.A o.dst e.val,e.apply s2.H,s2.D⟩,?_,by grind,fun l hWl=>?_,fun l hWl=>?_⟩
    ·rw[gR,eu,dr,p3,hf]
    ·cases l with
     |qm t=>grind [WL,look,F7]
     |blk b=>
      simp only[WL]at hWl;by_cases hb:b<n0
      ·rw[if_pos hb,← hf]at hWl;simp only[look,hb,if_true,LVal.b.injEq];have hu:b∈e.cZ.map (·.1):=by
        simp only[eF,List.mem_append,List.mem_map]at hWl;rcases hWl with⟨c,hc,he⟩ |hc
        ·grind [cut]
        ·split at hc<;>simp at hc;omega
       have h1:=oH e.cZ s2.H;have h2:=oH e.cZ s.H;simp only[cF.apply];rw[List.getElem?_append_left (by simp only[oG]at h1;omega),List.getElem?_append_left (by simp only[oG]at h2;omega)]
       exact F6 e.cZ s2.H s.H (by omega) (by omega) hu
      ·rw[if_neg hb,← hf]at hWl;simp only[look,hb,if_false,LVal.t.injEq];have htail:look n0 s2 (.blk n0)=look n0 s (.blk n0):=hloc (.blk n0) (by
        grind [zT,eF])
       have hll:=Er htail hl hl2;apply List.ext_getElem?;intro i;rw[List.getElem?_drop,List.getElem?_drop];have hsame:s2.H[n0+i]? =s.H[n0+i]? :=Ep (n0:=n0) (b:=n0+i) (by grind [cut])
       have h1:=oH e.cZ s2.H;have h2:=oH e.cZ s.H;simp only[cF.apply];by_cases hi:n0+i<s.H.length
       ·rw[List.getElem?_append_left (by simp only[oG]at h1;omega),List.getElem?_append_left (by simp only[oG]at h2;omega)]
        exact yg e.cZ _ _ hsame
       grind [oG]
     |rest=>exact hWl.elim
    ·cases l with
     |qm t=>grind [WL,look,AA]
     |blk b=>
      simp only[WL]at hWl;by_cases hb:b<n0
      ·rw[if_pos hb,← hf]at hWl;simp only[look,hb,if_true,LVal.b.injEq];have hu:b∉e.cZ.map (·.1):=fun hu=>hWl (by
        grind [eF,cut])
       have h1:=oH e.cZ s2.H;simp only[cF.apply];rw[List.getElem?_append_left (by simp only[oG]at h1;omega)]
       exact Ay e.cZ s2.H hu
      ·rw[if_neg hb,← hf]at hWl;simp only[look,hb,if_false,LVal.t.injEq];simp only[eF,List.mem_append,not_or]at hWl;have hnews:e.news=[]:=by
        have:=hWl.2;cases hn:e.news with
        |nil=>rfl
        |cons x xs=>rw[hn]at this;simp at this
       have hu:∀i,n0+i∉e.cZ.map (·.1):=fun i hu=>hWl.1 (List.mem_map.2 ⟨n0+i,hu,by unfold cut;rw[if_neg (by omega)]⟩)
       apply List.ext_getElem?;intro i;rw[List.getElem?_drop,List.getElem?_drop];simp only[cF.apply,hnews,List.append_nil];exact Ay e.cZ s2.H (hu i)
     |rest=>simp only[look,Az]
   ·rename_i fd args hfin;exfalso;rcases oa hpre with⟨e',rfl,hop,hal⟩ |⟨fo,args,tys,n,p,q,hop,hf,hc,hceq⟩ |⟨fo,args,tys,n,p,q,hop,hf,rfl⟩ |⟨x,t,u,hop,hx,hfl,rfl⟩ |⟨fo,args,tys,b,ids',hop,hf,rfl⟩ |⟨fo,args,tys,n,p,q,fnx,hop,hf,hfx,hbx,hcx⟩
    ·simp[finish]at hfin
    ·unfold kE at hc;split at hc
     ·obtain⟨args2,h1,h2⟩:=bind_some hc;grind [Rd.run,finish,dM]
     ·obtain⟨ids',h1,h2⟩:=bind_some hc;simp only[Rd.run,Option.some.injEq]at h2;subst h2;exact Bj hfin
    ·exact hd _ hop
    ·simp[finish]at hfin
    ·grind [finish,dM,ct,pF]
    grind [Et,finish]
theorem Ch{s1:St}{v:AVal}{f:eV}(hl:n0≤s.H.length)(hl2:n0≤s2.H.length)(h:dx P cfg orc ops n0 o nid s=some (.aM v s1,f))(hfw:f.writes=[])
 (hloc:∀l,zT ops n0 o f l→look n0 s2 l=look n0 s l):
 s1=s∧dx P cfg orc ops n0 o nid s2=some (.aM v s2,f):=by
 have hA:∀t∈o.looksAt ops,s2.A[t]? =s.A[t]? :=fun t ht=>by
  have:=hloc (.qm t) ht;simpa[look]using this
 have hw:=yh (ops:=ops) (o:=o) hA;unfold dx at h ⊢;rw[hw];dsimp only at h ⊢;split at h
 ·cases h
 ·rw[eu]at h;simp at h
 ·split at h
  ·cases h
  ·rename_i pre hpre;split at h
   ·cases h
   ·rename_i v' ids hfin;simp only[Option.some.injEq,Prod.mk.injEq,dw.aM.injEq]at h;obtain⟨⟨rfl,rfl⟩,hf⟩:=h;have hids:ids=[]:=by
     rw[← hf]at hfw;simp[eF]at hfw;exact hfw
    subst hids;obtain⟨p1,p2,p3,p4⟩:=C0 (orc:=orc) (ops:=ops) hl hl2 hpre hf.symm hloc;simp_all
   ·grind [gR,eu,dr]
   grind [eu,dM]
end
end Go.AM
end
section
namespace Go.AM
section
variable [ax] {P:Program} {cfg:dV} {orc:Nat→gF} {ops:Array Oper} {g:Gh} {H:List af} {w:World} {n0:Nat}
theorem jQ{m b:Nat}{x:af}(h:(H++List.replicate m af.aR)[b]? =some x):H[b]? =some x∨(H.length≤b∧x=.aR):=by
 grind
theorem Inv.reserve(hi:Inv g H w)(m:Nat):Inv g (H++List.replicate m .aR) w∧aK g H w g (H++List.replicate m .aR) w:=by
 refine⟨⟨?_,?_,?_,?_,?_,hi.dc,hi.b9⟩,⟨Ext.refl g w,Nat.le_refl _,fun _ _ _=>rfl,?_,by simp,rfl,⟨rfl,Nat.le_refl _⟩,rfl,fun _ _ _ h=>.inl h,?_,fun _ ak _ z h=>.inl ⟨ak,z,h⟩⟩⟩
 ·intro b x h;rcases jQ h with h |⟨_,rfl⟩
  ·exact hi.good b x h
  ·trivial
 ·intro b b' x x' v v' k z z' h h' hv hv';rcases jQ h with h |⟨_,rfl⟩
  ·rcases jQ h' with h' |⟨_,rfl⟩
   ·exact hi.inj b b' x x' v v' k z z' h h' hv hv'
   ·cases hv'
  ·cases hv
 ·intro b ak h;rcases h with h |h
  ·rcases jQ h with h |⟨h,_⟩
   ·exact hi.fresh b ak (.inl h)
   ·exact hi.fresh b ak (.inr h)
  ·exact hi.fresh b ak (.inr (by simp at h;omega))
 ·intro b x v ver' h hv;rcases jQ h with h |⟨_,rfl⟩
  ·exact hi.next b x v ver' h hv
  ·cases hv
 ·intro b x v k z o h hv;rcases jQ h with h |⟨_,rfl⟩
  ·exact hi.free b x v k z o h hv
  ·cases hv
 ·rintro k _ ⟨b,x,v,z,h,hv,hz⟩;rcases jQ h with h |⟨_,rfl⟩
  ·exact⟨b,x,v,z,h,hv,hz⟩
  ·cases hv
 grind
theorem mH:∀(l:List Oper) (n j:Nat),((numbered n l)[j]?).map (fun(p:Oper×Nat)=>p.1)=l[j]?
 | [],_,_=>by simp[numbered]
 |o::l,n,0=>by simp[numbered,fe]
 |o::l,n,j+1=>by simp only[numbered,fe,List.getElem?_cons_succ];exact mH l _ j
theorem pH:∀(l:List Oper) (n:Nat),(numbered n l).length=l.length
 | [],_=>rfl
 |o::l,n=>by simp[numbered,fe,pH l]
def lZ(Q:Exit→Act→World→Prop)(g:Gh)(H:List af)(w:World):dw→Prop
 | .ok s'=>∀g' a' w',dy g' s' a' w'→aK g H w g' s'.H w'→Q .normal a' w'
 | .aM v s'=>∀g' a' w' x,v.flat=true→dy g' s' a' w'→aK g H w g' s'.H w'→R g' w' v x→Q (.panic [{v:=x,recovered:=false}]) a' w'
theorem lZ.later{Q:Exit→Act→World→Prop}{g1:Gh}{H1:List af}{w1:World}{r:dw}(h:lZ Q g H w r)(hl:aK g H w g1 H1 w1):lZ Q g1 H1 w1 r:=by
 cases r with
 |ok s'=>exact fun g' a' w' hs hl'=>h g' a' w' hs (hl.trans hl')
 |aM v s'=>exact fun g' a' w' x hv hs hl' hr=>h g' a' w' x hv hs (hl.trans hl') hr
theorem yj{ro:Option Nat}(hcalm:∀(k:Nat) (o:Oper),ops[k]? =some o→Calm ro o)(ho:∀k,eW P (orc k)){Q:Exit→Act→World→Prop}:∀(l:List (Oper×Nat)) (k:Nat) (s:St) (g:Gh) (a:Act) (w:World) (r:dw) (feet:List eV),
 (∀(j:Nat),(l[j]?).map (fun(p:Oper×Nat)=>p.1)=(ops.toList.drop k)[j]?)→hM P cfg orc ops n0 k l s=some (r,feet)→dy g s a w→lZ Q g s.H w r→wpOpsIn (Fr ro) 0 P ops Q (List.range' k l.length) a w
 | [],k,s,g,a,w,r,feet,_,h,hs,hp=>by
  simp only[hM,Option.some.injEq,Prod.mk.injEq]at h;obtain⟨rfl,_⟩:=h;exact hp g a w hs (aK.refl _ _ _)
 | (o,nid)::rest,k,s,g,a,w,r,feet,hl,h,hs,hp=>by
  simp only[List.length_cons,List.range'_succ,wpOpsIn_cons];have hi:ops[k]? =some o:=by
   have:=hl 0;simp at this;exact this.symm
  simp only[hM]at h;split at h
  ·rename_i s1 f hst;split at h
   ·rename_i r1 fs hrest;simp only[Option.some.injEq,Prod.mk.injEq]at h;obtain⟨rfl,_⟩:=h;refine k7 (ho k) hs hi (hcalm _ _ hi) hst fun g' a' w' hs' hla=>?_
    exact yj hcalm ho rest (k+1) s1 g' a' w' r1 fs (fun j=>by
     have:=hl (j+1);grind) hrest hs' (hp.later hla)
   ·cases h
  ·rename_i v s1 f hst;simp only[Option.some.injEq,Prod.mk.injEq]at h;obtain⟨rfl,_⟩:=h;exact k7 (ho k) hs hi (hcalm _ _ hi) hst fun g' w' x hv hs' hla hr=>hp g' a w' x hv hs' hla hr
  ·cases h
theorem yl:∀(k:Nat) (l:List (Oper×Nat)) (s:St) (r:dw) (feet:List eV),hM P cfg orc ops n0 k l s=some (r,feet)→∃(n:Nat) (st:Nat→St),st 0=s∧
 (∀j,j<n→∃o nid f,l[j]? =some (o,nid)∧feet[j]? =some f∧dx P cfg (orc (k+j)) ops n0 o nid (st j)=some (.ok (st (j+1)),f))∧
 ((∃s',r=.ok s'∧n=l.length∧feet.length=n∧st n=s')∨
  (∃v s' o nid f,r=.aM v s'∧feet.length=n+1∧l[n]? =some (o,nid)∧feet[n]? =some f∧dx P cfg (orc (k+n)) ops n0 o nid (st n)=some (.aM v s',f)))
 |_,[],s,r,feet,h=>by
  simp only[hM,Option.some.injEq,Prod.mk.injEq]at h;obtain⟨rfl,rfl⟩:=h;exact⟨0,fun _=>s,rfl,fun j hj=>absurd hj (by omega),.inl ⟨s,rfl,rfl,rfl,rfl⟩⟩
 |k,(o,nid)::rest,s,r,feet,h=>by
  simp only[hM]at h;split at h
  ·rename_i s1 f hst;split at h
   ·rename_i r1 fs hrest;simp only[Option.some.injEq,Prod.mk.injEq]at h;obtain⟨rfl,rfl⟩:=h;obtain⟨n,st,h0,h1,h2⟩:=yl (k+1) rest s1 r1 fs hrest;refine⟨n+1,fun j=>match j with | 0=>s |j+1=>st j,rfl,?_,?_⟩
    ·grind
    grind
   ·cases h
  ·rename_i v s1 f hst;simp only[Option.some.injEq,Prod.mk.injEq]at h;obtain⟨rfl,rfl⟩:=h;exact⟨0,fun _=>s,rfl,fun j hj=>absurd hj (by omega),.inr ⟨v,s1,o,nid,f,rfl,rfl,rfl,rfl,hst⟩⟩
  ·cases h
theorem Eu:∀(l:List Oper) (A:List AVal) (t:Nat) (v:AVal),(l.foldl (fun A o=>fG A o.dst .aq) A)[t]? =some v→v=.aq∨(A[t]? =some v∧∀o∈l,o.dst≠some t)
 | [],A,t,v,h=>.inr ⟨h,fun _ hm=>by cases hm⟩
 |o::l,A,t,v,h=>by
  simp only[List.foldl_cons]at h;rcases Eu l _ t v h with h |⟨h,h2⟩
  ·exact .inl h
  grind [fG,AA]
theorem Ev:∀(l:List Oper) (A:List AVal),(l.foldl (fun A o=>fG A o.dst .aq) A).length=A.length
 | [],_=>rfl
 |o::l,A=>by simp only[List.foldl_cons];rw[Ev l,Az]
end
end Go.AM
end
section
namespace Go.AM
section
variable [ax] {P:Program} {cfg:dV} {orc:Nat→gF} {ops:Array Oper} {n0:Nat}
def ql(ops:Array Oper)(k j:Nat):Prop:=((CheckFast.beforeF ops).getD j 0).testBit k=true
def F8(ops:Array Oper)(n0:Nat)(feet:List eV)(j:Nat)(l:Loc):Prop:=∃o f,ops[j]? =some o∧feet[j]? =some f∧zT ops n0 o f l
def WN(ops:Array Oper)(n0:Nat)(feet:List eV)(j:Nat)(l:Loc):Prop:=∃o f,ops[j]? =some o∧feet[j]? =some f∧WL n0 o f l
theorem GL{feet:List eV}(h:indep ops (CheckFast.beforeF ops) feet=true){i j:Nat}{x y:eV}(hij:i<j)(hx:feet[i]? =some x)(hy:feet[j]? =some y)(hb:¬ql ops i j):
 x.apart y=true∧∃oi oj,ops[i]? =some oi∧ops[j]? =some oj∧Oper.apart ops oi oj=true:=by
 unfold indep at h;rw[List.all_eq_true]at h;have h1:=h (y,j) (List.mem_of_getElem? (i:=j) (by rw[List.getElem?_zipIdx,hy];simp))
 simp only[List.all_eq_true]at h1;have h2:=h1 (x,i) (List.mem_of_getElem? (i:=i) (by rw[List.getElem?_zipIdx,hx];simp))
 simp only[hij,decide_true,Bool.not_true,Bool.false_or,Bool.or_eq_true,Bool.and_eq_true]at h2;rcases h2 with h2 |⟨h2,h3⟩
 ·exact absurd h2 hb
 grind
theorem HV{feet:List eV}(h:indep ops (CheckFast.beforeF ops) feet=true):∀i j,i<j→j<feet.length→¬ql ops i j→∀l,
 ¬(WN ops n0 feet i l∧F8 ops n0 feet j l)∧¬(WN ops n0 feet i l∧WN ops n0 feet j l)∧¬(F8 ops n0 feet i l∧WN ops n0 feet j l):=by
 intro i j hij hj hb l;obtain⟨h1,oi,oj,h2,h3,h4⟩:=GL h hij (List.getElem?_eq_getElem (by omega)) (List.getElem?_eq_getElem hj) hb
 obtain⟨a1,a2,a3⟩:=Oper.apart_spec h4;simp only[eV.apart,Bool.and_eq_true,List.all_eq_true,Bool.not_eq_true',List.contains_eq_mem,decide_eq_false_iff_not]at h1;have hw:∀k l,WN ops n0 feet k l→∀o f,ops[k]? =some o→feet[k]? =some f→WL n0 o f l:=by
  rintro k l ⟨o',f',q1,q2,q3⟩ o f e1 e2;rw[e1]at q1;rw[e2]at q2;cases q1;cases q2;exact q3
 have hr:∀k l,F8 ops n0 feet k l→∀o f,ops[k]? =some o→feet[k]? =some f→zT ops n0 o f l:=by
  rintro k l ⟨o',f',q1,q2,q3⟩ o f e1 e2;rw[e1]at q1;rw[e2]at q2;cases q1;cases q2;exact q3
 have fi:=List.getElem?_eq_getElem (l:=feet) (i:=i) (by omega)
 have fj:=List.getElem?_eq_getElem (l:=feet) hj;refine⟨fun⟨q1,q2⟩=>?_,fun⟨q1,q2⟩=>?_,fun⟨q1,q2⟩=>?_⟩
 ·have w1:=hw _ _ q1 _ _ h2 fi;have w2:=hr _ _ q2 _ _ h3 fj;cases l with
  |qm t=>exact a1 t w1 w2
  |blk b=>exact(h1.1 _ w1).1 w2
  |rest=>exact w1.elim
 ·have w1:=hw _ _ q1 _ _ h2 fi;have w2:=hw _ _ q2 _ _ h3 fj;cases l with
  |qm t=>exact a2 t w1 w2
  |blk b=>exact(h1.1 _ w1).2 w2
  |rest=>exact w1.elim
 ·have w1:=hr _ _ q1 _ _ h2 fi;have w2:=hw _ _ q2 _ _ h3 fj;cases l with
  |qm t=>exact a3 t w2 w1
  |blk b=>exact h1.2 _ w2 w1
  |rest=>exact w2.elim
theorem ow(h:qA ops=true){j:Nat}{o:Oper}(ho:ops[j]? =some o):(∀c,o.op≠ .defer c)∧∀e∈o.after,Region.binds .any e=true→e.on<j:=by
 unfold qA at h;rw[List.all_eq_true]at h;have h1:=h (o,j) (List.mem_of_getElem? (i:=j) (by rw[List.getElem?_zipIdx];simp[ho]))
 grind
theorem GM(h:qA ops=true){listed:Array Bool}(hsz:listed.size=ops.size):∀j,listed.getD j true=false→Region.ready .any ops listed≠[]:=by
 intro j;induction j using Nat.strongRecOn with
 |_ j ih=>
  intro hj;have hlt:j<listed.size:=by
   apply Decidable.byContradiction;intro hc;simp[Array.getElem?_eq_none (Nat.le_of_not_lt hc)]at hj
  have ho:ops[j]? =some ops[j]:=Array.getElem?_eq_getElem (by omega)
  by_cases hall:∀e∈(ops[j]).after,Region.binds .any e=true→listed.getD e.on false=true
  ·intro hn;have:j∈Region.ready .any ops listed:=mem_ready.2 ⟨hj,_,ho,hall⟩;rw[hn]at this;cases this
  grind [ow]
theorem count_set{listed:Array Bool}{i fuel:Nat}(hi:listed.getD i true=false)(hc:listed.toList.count false=fuel+1):(listed.setIfInBounds i true).toList.count false=fuel:=by
 have hlt:i<listed.size:=by
  apply Decidable.byContradiction;intro hc;simp[Array.getElem?_eq_none (Nat.le_of_not_lt hc)]at hi
 rw[Array.toList_setIfInBounds,List.count_set (by simpa using hlt),hc]
 simp_all
theorem GN{ro:Option Nat}(hcalm:∀(k:Nat) (o:Oper),ops[k]? =some o→Calm ro o)(ho:∀k,eW P (orc k)){Q:Exit→Act→World→Prop}{l:List (Oper×Nat)}{feet:List eV}{n:Nat}{st:Nat→St}{r:dw}{gg:Gh}{ww:World}
 (hl:∀(j:Nat),(l[j]?).map (fun(p:Oper×Nat)=>p.1)=ops[j]?) (hd:qA ops=true) (hind:indep ops (CheckFast.beforeF ops) feet=true) (hlen:feet.length=ops.size)
 (hn0:n0≤(st 0).H.length)
 (htr:∀j,j<n→∃o nid f,l[j]? =some (o,nid)∧feet[j]? =some f∧dx P cfg (orc j) ops n0 o nid (st j)=some (.ok (st (j+1)),f))
 (hend:(r=.ok (st n)∧n=ops.size)∨
  (∃v s' o nid f,r=.aM v {s' with A:=ops.toList.foldl (fun A o=>fG A o.dst .aq) s'.A}∧ops.size=n+1∧l[n]? =some (o,nid)∧feet[n]? =some f∧dx P cfg (orc n) ops n0 o nid (st n)=some (.aM v s',f)∧feet.all (fun f=>f.writes.isEmpty)=true))
 (hp:lZ Q gg (st 0).H ww r):
 ∀(fuel:Nat) (listed:Array Bool) (s:St) (g:Gh) (a:Act) (w:World),listed.size=ops.size→listed.toList.count false=fuel→dy g s a w→aK gg (st 0).H ww g s.H w→n0≤s.H.length→
  rS (look n0) st (WN ops n0 feet) s (fun k=>listed.getD k false=true)→(∀k,listed.getD k false=true→k<n)→
  (∀k o e,listed.getD k false=true→ops[k]? =some o→e∈o.after→Region.binds .any e=true→listed.getD e.on false=true)→wpAnyIn (Fr ro) 0 P .any ops Q fuel listed a w:=by
 have hnN:n≤ops.size:=by rcases hend with⟨_,h⟩ |⟨_,_,_,_,_,_,h,_⟩<;>omega
 have hop:∀j o nid,l[j]? =some (o,nid)→ops[j]? =some o:=fun j o nid h=>by
  have:=hl j;rw[h]at this;exact this.symm
 have hstn:∀j,j≤n→n0≤(st j).H.length:=by
  intro j;induction j with
  |zero=>intro _;exact hn0
  |succ j ih=>
   intro hj;obtain⟨o,nid,f,h1,h2,h3⟩:=htr j (by omega)
   exact(wV (ih (by omega)) (ih (by omega)) (ow hd (hop _ _ _ h1)).1 h3 fun _ _=>rfl).1
 have frame:∀j,j<n→∀l,¬WN ops n0 feet j l→look n0 (st (j+1)) l=look n0 (st j) l:=by
  intro j hj lc hw;obtain⟨o,nid,f,h1,h2,h3⟩:=htr j hj;obtain⟨_,s3,h4,_,_,h5⟩:=wV (hstn j (by omega)) (hstn j (by omega)) (ow hd (hop _ _ _ h1)).1 h3 fun _ _=>rfl
  rw[h3]at h4;simp only[Option.some.injEq,Prod.mk.injEq,dw.ok.injEq,and_true]at h4;rw[h4];exact h5 lc fun hc=>hw ⟨o,f,hop _ _ _ h1,h2,hc⟩
 have ind:=HV (n0:=n0) hind;rw[hlen]at ind;intro fuel;induction fuel with
 |zero=>
  intro listed s g a w hsz hc hs hla hnl hag hDn hdown;have hall:∀j,listed.getD j true=true:=by
   intro j;cases hj:listed.getD j true
   ·have hlt:j<listed.size:=by
     apply Decidable.byContradiction;intro hc;simp[Array.getElem?_eq_none (Nat.le_of_not_lt hc)]at hj
    simp only[Array.getD_eq_getD_getElem?,Array.getElem?_eq_getElem hlt,Option.getD_some]at hj;have hm:false∈listed.toList:=by rw[← hj];simp
    grind
   ·rfl
  have hD:∀j,j<ops.size→listed.getD j false=true:=fun j hj=>by
   grind
  refine⟨?_,?_⟩
  ·cases hr:Region.ready .any ops listed with
   |nil=>rfl
   |cons j js=>
    have hm:j∈Region.ready .any ops listed:=by rw[hr];simp
    have:=(mem_ready.1 hm).1;rw[hall j]at this;cases this
  ·rcases hend with⟨rfl,hn⟩ |⟨v,s',o,nid,f,rfl,hn,_⟩
   ·have he:s=st n:=Eo (n0:=n0) fun lc=>wS hag (pG frame n (Nat.le_refl _)) fun k hw=>by
     grind
    subst he;exact hp g a w hs hla
   grind
 |succ fuel ih=>
  intro listed s g a w hsz hc hs hla hnl hag hDn hdown;refine⟨fun hr=>?_,fun i hi=>?_⟩
  ·exfalso;have hm:false∈listed.toList:=List.count_pos_iff.1 (by omega)
   obtain⟨j,hj⟩:=List.getElem?_of_mem hm;refine GM hd hsz j ?_ hr;simp_all
  ·obtain⟨hun,o,hoi,hed⟩:=mem_ready.1 hi;have hiN:i<ops.size:=(Array.getElem?_eq_some_iff.1 hoi).1;have hnot:¬listed.getD i false=true:=by
    have h2:i<listed.size:=by omega
    simp only[Array.getD_eq_getD_getElem?,Array.getElem?_eq_getElem h2,Option.getD_some]at hun ⊢;simp[hun]
   have hD':∀k,listed.getD k false=true→k<ops.size:=fun k hk=>by have:=hDn k hk;omega
   have hdown':∀k k',listed.getD k false=true→ql ops k' k→listed.getD k' false=true:=fun k k' hk hb=>
    xF (D:=fun k=>listed.getD k false=true) (fun k o e hk ho he hb=>hdown k o e hk ho he hb) k (fun o' e' ho' he' hb'=>hdown k o' e' hk ho' he' hb') hb
   have hready:∀k,ql ops k i→listed.getD k false=true:=fun k hb=>
    xF (D:=fun k=>listed.getD k false=true) (fun k o e hk ho he hb=>hdown k o e hk ho he hb) i (fun o' e' ho' he' hb'=>by grind) hb
   by_cases hin:i<n
   ·obtain⟨o',nid,f,h1,h2,h3⟩:=htr i hin;have heo:=hop _ _ _ h1;rw[hoi]at heo;cases heo;have hread:∀lc,zT ops n0 o f lc→look n0 s lc=look n0 (st i) lc:=fun lc hrd=>
     Bk (Rd:=F8 ops n0 feet) (ql:=ql ops) frame ind hag hD' hdown' (by omega) hiN hnot hready ⟨o,f,hoi,h2,hrd⟩
    obtain⟨_,s3,h4,h5,h6,h7⟩:=wV (hstn i (by omega)) hnl (ow hd hoi).1 h3 hread
    refine k7 (ho _) hs hoi (hcalm _ _ hoi) h4 fun g' a' w' hs' hla'=>?_
    have hset:∀k,(listed.setIfInBounds i true).getD k false=true↔(listed.getD k false=true∨k=i):=by
     intro k;by_cases hk:i=k
     ·subst hk;have:i<listed.size:=by omega
      simp[this]
     ·rw[getD_set_ne false hk];grind
    refine ih (listed.setIfInBounds i true) s3 g' a' w' (by simpa using hsz) (count_set hun hc) hs' (hla.trans hla') h5 ?_ ?_ ?_
    ·have hst:=GI (Rd:=F8 ops n0 feet) (ql:=ql ops) (s':=s3) ind hag hD' hdown' hnot
      (fun lc hw=>by
       obtain⟨o2,f2,q1,q2,q3⟩:=hw;grind)
      (fun lc hw=>h7 lc fun hc=>hw ⟨o,f,hoi,h2,hc⟩)
     grind
    ·grind
    grind
   ·rcases hend with⟨rfl,hn⟩ |⟨v,s',o',nid,f,rfl,hn,h1,h2,h3,h8⟩
    ·omega
    ·have hie:i=n:=by omega
     subst hie;have heo:=hop _ _ _ h1;rw[hoi]at heo;cases heo;have hread:∀lc,zT ops n0 o f lc→look n0 s lc=look n0 (st i) lc:=fun lc hrd=>
      Bk (Rd:=F8 ops n0 feet) (ql:=ql ops) frame ind hag hD' hdown' (Nat.le_refl _) hiN hnot hready ⟨o,f,hoi,h2,hrd⟩
     have hwr:∀(k:Nat) (f:eV),feet[k]? =some f→f.writes=[]:=fun k f hk=>by
      grind
     obtain⟨rfl,h4⟩:=Ch (hstn i (Nat.le_refl _)) hnl h3 (hwr i f h2) hread;refine k7 (ho _) hs hoi (hcalm _ _ hoi) h4 fun g' w' x hv hs' hla' hr=>?_
     have hsame:∀lc,(∀t,lc≠ .qm t∨∀o∈ops.toList,o.dst≠some t)→look n0 s lc=look n0 (st i) lc:=fun lc hlc=>by
      refine wS hag (pG frame i (Nat.le_refl _)) fun k hw=>?_
      obtain⟨o2,f2,q1,q2,q3⟩:=hw;exfalso;cases lc with
      |qm t=>
       rcases hlc t with h |h
       ·exact h rfl
       ·exact h o2 (by simpa using Array.mem_of_getElem? q1) q3
      |blk b=>grind [WL]
      |rest=>exact q3
     have hAl:s.A.length=(st i).A.length∧s.D=(st i).D:=by
      have:=hsame .rest (fun t=>.inl (by simp))
      simpa[look]using this
     have hH:s.H=(st i).H:=by
      have e1:({s with A:=(st i).A}:St)=st i:=Eo (n0:=n0) fun lc=>by
       cases lc with
       |qm t=>rfl
       |blk b=>exact hsame (.blk b) (fun t=>.inl (by simp))
       |rest=>simp[look,hAl.2]
      have e2:({s with A:=(st i).A}:St).H=(st i).H:=by rw[e1]
      exact e2
     refine hp g' a w' x hv ⟨?_,?_,?_⟩ ?_ hr
     ·grind [hs'.inv]
     ·show RL g' w' (ops.toList.foldl (fun A o=>fG A o.dst .aq) (st i).A) a.tmps.toList
      obtain⟨r1,r2⟩:=cK _ _ hs'.tmps;refine o7 _ _ (by rw[Ev,r1,hAl.1]) fun t b y hb hy=>?_
      rcases Eu _ _ _ _ hb with rfl |⟨hb,hno⟩
      ·simp[R]
      ·have:=hsame (.qm t) (fun t'=>by
        grind)
       grind [look,LVal.a.injEq]
     ·grind [RD,hs'.defs]
     ·show aK gg (st 0).H ww g' (st i).H w';rw[← hH];exact hla.trans hla'
theorem pI{ro:Option Nat}(hm:P.follows .mixedOrders=true)(ho:∀k,eW P (orc k)){Q:Exit→Act→World→Prop}{id:Nat}{draw:Bool}{s:St}{g:Gh}{a:Act}{w:World}{r:dw}
 (hcalm:∀(k:Nat) (o:Oper),ops[k]? =some o→Calm ro o) (h:oP P cfg orc ops draw s=some r) (hs:dy g s a w) (hp:lZ Q g s.H w r):(Code.region id ops draw).wpIn (Fr ro) 0 P Q a w:=by
 unfold oP at h;simp only[fe,mC]at h;generalize (if iX ops.toList=0 then 0 else kY s.H)=t0 at h
 generalize iX ops.toList - t0=m0 at h;generalize s.H.length - t0=f0 at h;obtain⟨i1,i2⟩:=hs.inv.reserve m0;have hs0:dy g {s with H:=s.H++List.replicate m0 .aR} a w:=⟨i1,hs.tmps,hs.defs⟩;split at h
 ·cases h
 ·rename_i r' feet hrun;cases draw
  ·simp only[Bool.not_false,if_true,Option.some.injEq]at h;subst h;refine wpIn_region ?_;rw[List.range_eq_range'];have:=yj hcalm ho (Q:=Q) _ 0 _ g a w r' feet (fun j=>by rw[mH];simp) hrun hs0 (hp.later i2)
   grind [pH]
  ·simp only[Bool.not_true,Bool.false_eq_true,if_false]at h;split at h
   ·rename_i hc;simp only[Bool.and_eq_true,beq_iff_eq]at hc;obtain⟨⟨hd,hlen⟩,hind⟩:=hc;obtain⟨n,st,h0,h1,h2⟩:=yl _ _ _ _ _ hrun;simp only[Nat.zero_add]at h1 h2;refine wpIn_region_any hm ?_;have hw':∀(d:Nat),w.drawn≤d→dy g (st 0) a {w with drawn:=d}∧aK g s.H w g (st 0).H {w with drawn:=d}:=by
     intro d hd;obtain⟨f1,f2⟩:=Inv.frame (w1:={w with drawn:=d}) i1 (fun _ _=>rfl) (Nat.le_refl _) rfl ⟨rfl,hd⟩ rfl
     rw[h0];exact⟨⟨f1,bq f2.ext _ _ hs.tmps,cT f2.ext _ _ hs.defs⟩,i2.trans f2⟩
    obtain⟨q1,q2⟩:=hw' (w.drawn+1) (Nat.le_succ _);have hfin:(r=.ok (st n)∧n=ops.size)∨
     (∃v s' o nid f,r=.aM v {s' with A:=ops.toList.foldl (fun A o=>fG A o.dst .aq) s'.A}∧ops.size=n+1∧(numbered f0 ops.toList)[n]? =some (o,nid)∧feet[n]? =some f∧dx P cfg (orc n) ops (s.H++List.replicate m0 af.aR).length o nid (st n)=some (.aM v s',f)∧feet.all (fun f=>f.writes.isEmpty)=true):=by
     rcases h2 with⟨s',rfl,e2,e3,e4⟩ |⟨v,s',o,nid,f,rfl,e2,e3,e4,e5⟩
     ·grind
     ·grind
    refine GN (n0:=(s.H++List.replicate m0 af.aR).length) hcalm ho (l:=numbered f0 ops.toList) (feet:=feet) (n:=n) (st:=st) (r:=r) (gg:=g) (ww:={w with drawn:=w.drawn+1})
     (fun j=>by rw[mH];simp) hd hind hlen (by rw[h0];exact Nat.le_refl _) h1 hfin (hp.later q2) ops.size _ (st 0) g a _ (by simp) (by simp) q1 (aK.refl _ _ _) (by rw[h0];exact Nat.le_refl _) ?_ ?_ ?_
    ·have:(fun k=>(Array.replicate ops.size false).getD k false=true)=fun _=>False:=funext fun k=>propext (by
      simp only[iff_false];by_cases hk:k<ops.size<;>simp[hk])
     rw[this];exact FC
    ·intro k hk;by_cases hk':k<ops.size<;>simp[hk']at hk
    ·intro k o e hk;by_cases hk':k<ops.size<;>simp[hk']at hk
   ·cases h
end
end Go.AM
end
section
namespace Go.AM
section
variable [ax] {P:Program} {cfg:dV} {orc:gF} {g:Gh} {H:List af} {w:World}
def dN(Q:Exit→Act→World→Prop)(g:Gh)(H:List af)(w:World)(s':St):aS→Prop
 | .normal=>∀g' a' w',dy g' s' a' w'→aK g H w g' s'.H w'→Q .normal a' w'
 | .exit id=>∀g' a' w',dy g' s' a' w'→aK g H w g' s'.H w'→Q (.exit id) a' w'
 | .ret=>∀g' a' w',dy g' s' a' w'→aK g H w g' s'.H w'→Q .ret a' w'
 | .aM v=>∀g' a' w' x,v.flat=true→dy g' s' a' w'→aK g H w g' s'.H w'→R g' w' v x→Q (.panic [{v:=x,recovered:=false}]) a' w'
theorem dN.later{Q:Exit→Act→World→Prop}{g1:Gh}{H1:List af}{w1:World}{s':St}{r:aS}(h:dN Q g H w s' r)(hl:aK g H w g1 H1 w1):dN Q g1 H1 w1 s' r:=by
 cases r with
 |normal=>exact fun g' a' w' hs hl'=>h g' a' w' hs (hl.trans hl')
 |exit id=>exact fun g' a' w' hs hl'=>h g' a' w' hs (hl.trans hl')
 |ret=>exact fun g' a' w' hs hl'=>h g' a' w' hs (hl.trans hl')
 |aM v=>exact fun g' a' w' x hv hs hl' hr=>h g' a' w' x hv hs (hl.trans hl') hr
theorem C1{a:Act}:∀(l:List Nat) (A:List AVal),RL g w A a.tmps.toList→RL g w (forget l A) a.tmps.toList
 | [],_,h=>h
 |t::l,A,h=>by
  have:=C1 (a:=a) l (A.set t .aq) (by
   grind [cK,o7,R])
  simpa[forget]using this
def jR(g:Gh):Option Nat→Option Nat→Prop
 |none,none=>True
 |some b,some k=>∃sz,g.ai b 0=some (k,sz)
 |_,_=>False
theorem jR.mono{g g':Gh}{w w':World}(h:Ext g w g' w'):∀{x y:Option Nat},jR g x y→jR g' x y
 |none,none,_=>trivial
 |some _,some _,⟨sz,hr⟩=>⟨sz,h.ai _ _ _ hr⟩
 |none,some _,hr=>hr.elim
 |some _,none,hr=>hr.elim
theorem Bl{fro:Option Nat}{ro:Option Nat}{c:Code}{f:St→Option (aS×St)}{Q:Exit→Act→World→Prop}
 (hc:∀(Q:Exit→Act→World→Prop) (s:St) (g:Gh) (a:Act) (w:World) (out:aS) (s':St),jR g ro fro→f s=some (out,s')→dy g s a w→dN Q g s.H w s' out→c.wpIn (Fr fro) 0 P Q a w):
 ∀(n:Nat) (s:St) (g:Gh) (a:Act) (w:World) (out:aS) (s':St),jR g ro fro→iter f n s=some (out,s')→dy g s a w→dN Q g s.H w s' out→
  ∀(b:Frame) (k:List Item) (cs:List Frame),b.roundOf=(Fr fro).round→∃e a' w',Q e a' w'∧ArrivesIn (Machine.fenced P (Fr fro)) P (lone (b.atR a (.code c:: .inLoop c::k)) cs w) b k cs e a' w'
 | 0,s,g,a,w,out,s',_,h,_,_=>by simp[iter]at h
 |n+1,s,g,a,w,out,s',hro,h,hs,hp=>by
  intro b k cs hb;simp only[iter]at h;have hstep:c.wpIn (Fr fro) 0 P (Exit.then (fun a' w'=>∀(b:Frame) (k:List Item) (cs:List Frame),b.roundOf=(Fr fro).round→∃e a2 w2,Q e a2 w2∧ArrivesIn (Machine.fenced P (Fr fro)) P (lone (b.atR a' (.code c:: .inLoop c::k)) cs w') b k cs e a2 w2) Q) a w:=by
   split at h
   ·rename_i s1 hf;exact hc _ s g a w .normal s1 hro hf hs fun g' a' w' hs' hla=>Bl hc n s1 g' a' w' out s' (hro.mono hla.ext) h hs' (hp.later hla)
   ·rename_i hne;cases hf:f s with
    |none=>rw[hf]at h;cases h
    |some r=>
     obtain⟨o1,s1⟩:=r;rw[hf]at h;simp only[Option.some.injEq,Prod.mk.injEq]at h;obtain⟨rfl,rfl⟩:=h;refine hc _ s g a w o1 s1 hro hf hs ?_;cases o1 with
     |normal=>exact absurd hf (hne s1)
     |exit id=>exact hp
     |ret=>exact hp
     |aM v=>exact hp
  obtain⟨e,a₁,w₁,hq,harr⟩:=hstep b (.inLoop c::k) cs hb trivial (ze _ _);cases e with
  |normal=>
   obtain⟨e₂,a₂,w₂,hq₂,harr₂⟩:=hq b k cs hb;exact⟨e₂,a₂,w₂,hq₂,.of_steps (StepsIn.trans harr (.one (fenced_calm (n:=0) trivial (ze _ _) rfl) stepR_inLoop)) harr₂⟩
  |exit id=>exact⟨_,a₁,w₁,hq,.pass (x:=.inLoop c) rfl (fun _ _=>.inl (by simp)) harr⟩
  |goto l=>exact⟨_,a₁,w₁,hq,.pass (x:=.inLoop c) rfl (fun _ _=>.inl (by simp)) harr⟩
  |ret=>exact⟨_,a₁,w₁,hq,.pass (x:=.inLoop c) rfl (fun _ _=>.inl (by simp)) harr⟩
  |panic ch=>exact⟨_,a₁,w₁,hq,.pass (x:=.inLoop c) rfl (fun _ _=>.inl (by simp)) harr⟩
  |outgrown=>exact⟨_,a₁,w₁,hq,.pass (x:=.inLoop c) rfl (fun _ _=>.inl (by simp)) harr⟩
theorem Inv.put{b k z:Nat}{x y:af}{ob:Obj}(hi:Inv g H w)(hb:H[b]? =some x)(hv:x.live=some 0)(hk:g.ai b 0=some (k,z))(hy:y.live=some 0)
 (hnc:w.shape? k=none) (hg:Ext g w g (w.putObj k ob)→Good g (w.putObj k ob) b y):
 Inv g (H.set b y) (w.putObj k ob)∧aK g H w g (H.set b y) (w.putObj k ob):=by
 refine hi.za hb hv hk hy (fun j hj=>World.putObj_heap_other hj) World.putObj_size (fun j x hx=>?_) rfl ⟨rfl,Nat.le_of_eq rfl⟩ rfl hg
 have hj:j≠k:=by rintro rfl;rw[hnc]at hx;cases hx
 simpa[World.shape?,World.putObj_heap_other (o:=ob) hj]using hx
theorem oc{k:Nat}{r:Loop}(h:w.heap[k]? =some (.loop r)):w.shape? k=none:=by simp[World.shape?,h]
theorem zU{ro fro:Option Nat}{fid:FuncId}{ps:Array Tmp}{assign body:Code}{s:St}{a:Act}{l:Nat}{H1:List af}{D1:List nG}(hro:jR g ro fro)(hs:dy g s a w)
 (h:yd ro fid ps assign body s=some (l,H1,D1)) (fn:FuncId):
 ∃k mark w1 g1,(Instr.enterLoop fn a.tmps ps assign body fro).run P w=.ok (k,mark) w1∧Inv g1 H1 w1∧aK g s.H w g1 H1 w1∧g1.ai l 0=some (k,0)∧RD g1 w1 D1 (mark++a.defers):=by
 unfold yd at h;cases ro with
 |none=>
  cases fro with
  |some k=>exact hro.elim
  |none=>
   simp only[Option.some.injEq,Prod.mk.injEq]at h;obtain⟨rfl,rfl,rfl⟩:=h;obtain⟨i0,l0⟩:=hs.inv.reserve 2;have hn0:(s.H++List.replicate 2 af.aR)[s.H.length]? =some .aR:=by simp
   obtain⟨i1,l1,r1⟩:=i0.tR (sz:=0) (y:=.defs) (ob:=.deferred (some [])) hn0 rfl ⟨w.heap.size,by simp[Gh.born],iV⟩
   have hn1:((s.H++List.replicate 2 af.aR).set s.H.length .defs)[s.H.length+1]? =some .aR:=by
    rw[List.getElem?_set_ne (by omega)];simp
   have hl1:=bq l1.ext _ _ (bq l0.ext _ _ hs.tmps);obtain⟨i2,l2,r2⟩:=i1.tR (sz:=0) (y:=.loop .ready none fid s.A ps.toList assign body)
    (ob:=.loop {state:=.ready,pending:=none,fn:=fn,tmps:=a.tmps,params:=ps,assign:=assign,body:=body,defers:=w.heap.size}) hn1 rfl
    ⟨(w.alloc (.deferred (some []))).heap.size,a.tmps,w.heap.size,fn,by simp[Gh.born],by rw[iV],bq (Ext.born (i1.fresh _ 0 (.inl hn1)) (fun k o hs=>gK (RowKit.Below.heap_alloc _ _ k (i1.dc k o hs)) o) fun k x hx=>o8 hx) _ _ hl1⟩
   have hH:((s.H++List.replicate 2 af.aR).set s.H.length .defs).set (s.H.length+1) (.loop .ready none fid s.A ps.toList assign body)=s.H++[.defs,.loop .ready none fid s.A ps.toList assign body]:=by
    rw[List.set_append_right _ _ (Nat.le_refl _),List.set_append_right _ _ (by omega)]
    simp[List.replicate]
   rw[hH]at i2 l2;refine⟨_,_,_,_,run_enterLoop_outer fn a.tmps ps assign body,i2,l0.trans (l1.trans l2),by simpa using r2,?_⟩
   refine⟨_,_,rfl,⟨w.heap.size,0,l2.ext.ai _ _ _ r1,rfl⟩,?_⟩;exact cT (l0.trans (l1.trans l2)).ext _ _ hs.defs
 |some b=>
  cases fro with
  |none=>exact hro.elim
  |some kb=>
   simp only at h;split at h
   ·rename_i st pend fid' A' ps' as' bd' hb;simp only[Option.some.injEq,Prod.mk.injEq]at h;obtain⟨rfl,rfl,rfl⟩:=h;obtain⟨k0,tmps0,dk0,fn0,q1,q2,_⟩:=hs.inv.good b _ hb;obtain⟨sz,hr⟩:=hro;rw[hr]at q1;simp only[Option.some.injEq,Prod.mk.injEq]at q1;obtain⟨rfl,_⟩:=q1;obtain⟨i0,l0⟩:=hs.inv.reserve 1;have hn0:(s.H++List.replicate 1 af.aR)[s.H.length]? =some .aR:=by simp
    have hl1:=bq l0.ext _ _ hs.tmps;obtain⟨i2,l2,r2⟩:=i0.tR (sz:=0) (y:=.loop .ready none fid s.A ps.toList assign body)
     (ob:=.loop {state:=.ready,pending:=none,fn:=fn,tmps:=a.tmps,params:=ps,assign:=assign,body:=body,defers:=dk0}) hn0 rfl
     ⟨w.heap.size,a.tmps,dk0,fn,by simp[Gh.born],by rw[iV],bq (Ext.born (i0.fresh _ 0 (.inl hn0)) (fun k o hs=>gK (RowKit.Below.heap_alloc _ _ k (i0.dc k o hs)) o) fun k x hx=>o8 hx) _ _ hl1⟩
    have hH:(s.H++List.replicate 1 af.aR).set s.H.length (.loop .ready none fid s.A ps.toList assign body)=s.H++[.loop .ready none fid s.A ps.toList assign body]:=by
     rw[List.set_append_right _ _ (Nat.le_refl _)];simp[List.replicate]
    rw[hH]at i2 l2;exact⟨_,_,_,_,run_enterLoop_inner q2 fn a.tmps ps assign body,i2,l0.trans l2,r2,cT (l0.trans l2).ext _ _ hs.defs⟩
   ·cases h
theorem C2{fro:Option Nat}{l k:Nat}{D1:List nG}{s s':St}{out:aS}{H2:List af}{a:Act}{Q:Exit→Act→World→Prop}(hk:g.ai l 0=some (k,0))(hi:Inv g H2 w)(ht:RL g w s.A a.tmps.toList)(hd:RD g w D1 a.defers)
 (h:Ek l D1 s H2=some (out,s')) (hp:dN Q g H2 w s' out):
 ∃jump w4,(Instr.endLoop k).run P w=.ok jump w4∧(match jump with |none=>Q .normal a w4 |some c=>c.wpIn (Fr fro) 0 P Q a w4):=by
 unfold Ek at h;split at h
 ·rename_i st pend fid A ps assign body hb;split at h
  ·cases h
  ·rename_i hst;obtain⟨k0,tmps0,dk0,fn0,q1,q2,q3⟩:=hi.good l _ hb;rw[hk]at q1;simp only[Option.some.injEq,Prod.mk.injEq]at q1;obtain⟨rfl,_⟩:=q1;refine⟨_,_,run_endLoop q2 hst,?_⟩;obtain⟨i1,l1⟩:=hi.put (y:=.loop .exhausted pend fid A ps assign body)
    (ob:=.loop {state:=.exhausted,pending:=pend,fn:=fn0,tmps:=tmps0,params:=ps.toArray,assign:=assign,body:=body,defers:=dk0}) hb rfl hk rfl (oc q2)
    fun hext=>⟨_,tmps0,dk0,fn0,hk,World.putObj_heap_same (Array.getElem?_eq_some_iff.1 q2).1,bq hext _ _ q3⟩
   have hsim:dy g {s with H:=H2.set l (.loop .exhausted pend fid A ps assign body),D:=D1} a (w.putObj k (.loop {state:=.exhausted,pending:=pend,fn:=fn0,tmps:=tmps0,params:=ps.toArray,assign:=assign,body:=body,defers:=dk0})):=
    ⟨i1,bq l1.ext _ _ ht,cT l1.ext _ _ hd⟩
   split at h
   ·simp only[Option.some.injEq,Prod.mk.injEq]at h;obtain⟨rfl,rfl⟩:=h;exact hp g _ _ hsim l1
   ·simp only[Option.some.injEq,Prod.mk.injEq]at h;obtain⟨rfl,rfl⟩:=h;exact wpIn_ret (hp g _ _ hsim l1)
   ·simp only[Option.some.injEq,Prod.mk.injEq]at h;obtain⟨rfl,rfl⟩:=h;exact wpIn_exit (hp g _ _ hsim l1)
   ·cases h
 ·cases h
theorem zV(ho:eW P orc){ro fro:Option Nat}{fid:FuncId}{x:Operand}{ps:Array Tmp}{assign body:Code}{s s':St}{a:Act}{out:aS}{Q:Exit→Act→World→Prop}(hro:jR g ro fro)
 (h:vZ orc ro fid (bQ s.A x) ps assign body s=some (out,s')) (hs:dy g s a w) (hp:dN Q g s.H w s' out):(Code.rangeFunc x ps assign body).wpIn (Fr fro) 0 P Q a w:=by
 unfold vZ at h;split at h
 ·rename_i n p q hf;split at h
  ·rename_i l H1 D1 hen;rw[cR]at h;split at h
   ·rename_i ids hids;have hev:=hs.eval x;rw[hf]at hev;refine wpIn_rangeFunc fun fn _=>?_
    obtain⟨k,mark,w1,g1,hrun,i1,l1,rk,hd⟩:=zU (P:=P) hro hs hen fn;have hev1:=jx l1.ext _ _ hev;simp only[R]at hev1;obtain⟨va,vb,hfo,ra,rb⟩:=hev1;have hl:RL g1 w1 (p++[.gj l]++q) ((va.toArray++ #[Value.func (.yield k) #[] #[]])++vb.toArray).toList:=by
     simp only[Array.toList_append];refine dn (dn (by simpa using ra) ?_) (by simpa using rb)
     simp only[RL,R];exact⟨_,_,rfl,⟨k,0,rk,rfl⟩,rfl⟩
    have ht:=bq l1.ext _ _ hs.tmps;have hfin:∃fin,finish orc H1 (.gY n (p++[.gj l]++q) ids)=some fin:=by
     cases hc:finish orc H1 (.gY n (p++[.gj l]++q) ids)with
     |none=>rw[hc]at h;cases h
     |some fin=>exact⟨fin,rfl⟩
    obtain⟨fin,hfin⟩:=hfin;obtain⟨⟨fn1,c1,k1,k2,k3⟩,hpost⟩:=Bg ho i1 hl hfin;refine⟨k,mark,w1,{target:=.fn (.func n) vb.toArray,args:=va.toArray++ #[Value.func (.yield k) #[] #[]]},w1,n,(va.toArray++ #[Value.func (.yield k) #[] #[]])++vb.toArray,w1,hrun,?_,fun _ _=>trivial,?_,k6 fro,tV ?_⟩
    ·have hc:a.eval (.const (.func (.yield k) #[] #[]))=.func (.yield k) #[] #[]:=rfl;simp[resolve,hfo,Deferred.ofValue,hc]
    ·simp[invoke,kI k1 k2 k3]
    ·rw[hfin]at h;rcases hpost with⟨aT,rfl,hcalls⟩ |⟨v',rfl,hfl,hcalls⟩
     ·refine hcalls.mono ?_;rintro e w' ⟨y,g',rfl,hi',_,hla⟩;simp only[gR,dr]at h;exact C2 (a:={a with defers:=mark++a.defers}) (hla.ext.ai _ _ _ rk) hi' (bq hla.ext _ _ ht) (cT hla.ext _ _ hd) h (hp.later (l1.trans hla))
     ·refine hcalls.mono ?_;rintro e w' ⟨y,rfl,hi',hr,hla⟩;simp only[Option.some.injEq,Prod.mk.injEq]at h;obtain⟨rfl,rfl⟩:=h;exact hp g1 {a with defers:=mark++a.defers} w' y hfl ⟨hi',bq hla.ext _ _ ht,cT hla.ext _ _ hd⟩ (l1.trans hla) hr
   ·cases h
  ·cases h
 ·cases h
theorem nq(hm:P.follows .mixedOrders=true)(ho:eW P orc){ro fro:Option Nat}{fid n:Nat}:∀(c:Code) (cur:Nat) (Q:Exit→Act→World→Prop) (s:St) (g:Gh) (a:Act) (w:World) (out:aS) (s':St),jR g ro fro→
 exec P cfg orc ro fid n cur c s=some (out,s')→dy g s a w→dN Q g s.H w s' out→c.wpIn (Fr fro) 0 P Q a w:=by
 intro c;induction c with
 |skip=>
  intro cur Q s g a w out s' hro h hs hp;simp only[exec,Option.some.injEq,Prod.mk.injEq]at h;obtain⟨rfl,rfl⟩:=h;exact wpIn_skip (hp g a w hs (aK.refl _ _ _))
 |region id ops draw=>
  intro cur Q s g a w out s' hro h hs hp;simp only[exec]at h;split at h
  ·cases h
  ·rename_i hoff;have hcalm:∀(k:Nat) (o:Oper),ops[k]? =some o→Calm fro o:=by
    intro k o hk;cases ro with
    |none=>
     cases fro with
     |none=>exact .inl rfl
     |some k=>exact hro.elim
    |some b=>
     right;grind
   split at h
   ·rename_i s1 hr;simp only[Option.some.injEq,Prod.mk.injEq]at h;obtain⟨rfl,rfl⟩:=h;exact pI hm (fun _=>ho) hcalm hr hs hp
   ·rename_i v s1 hr;simp only[Option.some.injEq,Prod.mk.injEq]at h;obtain⟨rfl,rfl⟩:=h;exact pI hm (fun _=>ho) hcalm hr hs hp
   ·cases h
 |seq x y ihx ihy=>
  intro cur Q s g a w out s' hro h hs hp;simp only[exec]at h;refine wpIn_seq ?_;split at h
  ·rename_i s1 hx;exact ihx cur _ s g a w .normal s1 hro hx hs fun g' a' w' hs' hla=>ihy cur Q s1 g' a' w' out s' (hro.mono hla.ext) h hs' (hp.later hla)
  ·rename_i hne;refine ihx cur _ s g a w out s' hro h hs ?_;cases out with
   |normal=>exact absurd h (hne s')
   |exit id=>exact hp
   |ret=>exact hp
   |aM v=>exact hp
 |cond c x y ihx ihy=>
  intro cur Q s g a w out s' hro h hs hp;simp only[exec]at h;have hev:=hs.eval c;split at h
  ·rename_i hc;rw[hc]at hev;simp only[R]at hev;exact wpIn_cond_true hev (ihx cur Q s g a w out s' hro h hs hp)
  ·rename_i hc;rw[hc]at hev;simp only[R]at hev;exact wpIn_cond_false hev (ihy cur Q s g a w out s' hro h hs hp)
  ·cases h
 |block id b ih=>
  intro cur Q s g a w out s' hro h hs hp;simp only[exec]at h;refine wpIn_block ?_;split at h
  ·rename_i id' s1 hb;split at h
   ·rename_i he;simp only[Option.some.injEq,Prod.mk.injEq]at h;obtain⟨rfl,rfl⟩:=h;refine ih id _ s g a w (.exit id') s1 hro hb hs fun g' a' w' hs' hla=>?_
    simp only[Exit.inBlock,he,if_true];exact hp g' a' w' hs' hla
   ·rename_i he;simp only[Option.some.injEq,Prod.mk.injEq]at h;obtain⟨rfl,rfl⟩:=h;refine ih id _ s g a w (.exit id') s1 hro hb hs fun g' a' w' hs' hla=>?_
    simp only[Exit.inBlock,he,if_false];exact hp g' a' w' hs' hla
  ·rename_i hne;refine ih id _ s g a w out s' hro h hs ?_;cases out with
   |normal=>exact hp
   |exit id'=>exact absurd h (hne id' s')
   |ret=>exact hp
   |aM v=>exact hp
 |loop b ih=>
  intro cur Q s g a w out s' hro h hs hp;simp only[exec]at h;intro fr k cs hfr _ hroom;have:=Bl (P:=P) (c:=b) (Q:=Q) (ro:=ro) (fro:=fro) (f:=fun s=>exec P cfg orc ro fid n cur b {s with A:=forget (cfg.kill fid cur) s.A})
   (fun Q s g a w out s' hro hf hs hp=>ih cur Q _ g a w out s' hro hf ⟨hs.inv,C1 _ _ hs.tmps,hs.defs⟩ hp) n s g a w out s' hro h hs hp fr k cs hfr
  obtain⟨e,a',w',hq,harr⟩:=this;exact⟨e,a',w',hq,.of_steps (.one (fenced_calm trivial hroom rfl) stepR_loop) harr⟩
 |exit id=>
  intro cur Q s g a w out s' hro h hs hp;simp only[exec,Option.some.injEq,Prod.mk.injEq]at h;obtain⟨rfl,rfl⟩:=h;exact wpIn_exit (hp g a w hs (aK.refl _ _ _))
 |ret=>
  intro cur Q s g a w out s' hro h hs hp;simp only[exec,Option.some.injEq,Prod.mk.injEq]at h;obtain⟨rfl,rfl⟩:=h;exact wpIn_ret (hp g a w hs (aK.refl _ _ _))
 |rangeFunc x ps as bd=>
  grind [exec,zV]
 |scope=>grind [exec]
 |label=>grind [exec]
 |goto=>grind [exec]
 |refuse=>grind [exec]
def rT(tmps:Array Value):ResultVar→Sem Value
 | .tmp t=>pure (tmps.getD t undef)
 | .cell b t=>do loadVar t (← asAddr (tmps.getD b undef))
theorem Bm(fn:Func)(tmps:Array Value):results fn tmps=(fn.results.mapM (rT tmps)>>= fun vs=>pure (if h:vs.size=1 then vs[0]else .tuple vs)):=by
 have:(fun r=>match r with
  |ResultVar.tmp t=>(pure (tmps.getD t undef):Sem Value)
  |ResultVar.cell a t=>do loadVar t (← asAddr (tmps.getD a undef)))=rT tmps:=by
  funext r;cases r<;>rfl
 unfold results;rw[← this];rfl
theorem Ew{A:List AVal}{a:Act}(hi:Inv g H w)(hl:RL g w A a.tmps.toList):∀(rv:ResultVar) (v:AVal),zb P A H rv=some v→
 ∃x,(rT a.tmps rv).run P w=.ok x w∧R g w v x:=by
 intro rv v h;have hget:∀t,R g w (A.getD t nothing) (a.tmps.getD t undef):=fun t=>
  (dy.eval (s:=⟨A,H,[]⟩) (a:={a with defers:=[]}) ⟨hi,hl,rfl⟩ (.tmp t):_)
 cases rv with
 |tmp t=>
  simp only[zb,Option.some.injEq]at h;subst h;exact⟨_,rfl,hget t⟩
 |cell t T=>
  simp only[zb]at h;split at h
  ·rename_i aT he;simp only[Option.some.injEq]at h;subst h;have hx:=hget t;unfold wK at he;split at he
   ·rename_i b off hb;rw[hb]at hx;simp only[R]at hx;obtain⟨y,hy,rfl⟩:=cm he;obtain⟨cs,hcs,hl'⟩:=Option.bind_eq_some_iff.1 hy;obtain⟨vs,v1,v2,v3,v4⟩:=tS (hi.b9 _ _ hcs).2;obtain⟨v,r1,r2⟩:=lX (P:=P) (k:=b) (p:=0) hl' v3 v2 v4;refine⟨v,?_,r2⟩;simp only[Nat.zero_add]at r1;simp[rT,hx,asAddr,r1]
   ·rename_i b ak i off hb;rw[hb]at hx;simp only[R]at hx;obtain⟨k,sz,hk,hv⟩:=hx;obtain⟨⟨sz',rows⟩,h1,h2⟩:=bind_some he;have hrow:=gb h1;obtain⟨y,hy,rfl⟩:=cm h2;obtain⟨cs,hcs,hl'⟩:=Option.bind_eq_some_iff.1 hy;obtain⟨k',c,e,q1,q2,q3,_⟩:=hi.row b ak _ _ hrow hk;rw[hk]at q1;simp at q1;obtain⟨rfl,rfl⟩:=q1;obtain⟨_,q4⟩:=bR _ _ _ _ q3 hcs;obtain⟨vs,v1,v2,v3,v4⟩:=dR q4;obtain⟨v,r1,r2⟩:=lX (P:=P) (k:=k) (p:=0+i*sz) hl' v3 v2 (fun j hj=>by rw[fc q2];exact v4 j hj)
    refine⟨v,?_,r2⟩;simp at r1;simp[rT,hv,asAddr,r1]
   ·rename_i cs off hb;rw[hb]at hx;simp only[R]at hx;obtain⟨k,p,hv,_,hc⟩:=hx;obtain⟨y,hy,rfl⟩:=cm he;obtain⟨vs,v1,v2,v3,v4⟩:=tS hc;obtain⟨v,r1,r2⟩:=lX (P:=P) (k:=k) (p:=p) hy v3 v2 v4;refine⟨v,?_,r2⟩;simp[rT,hv,asAddr,r1]
   ·simp[Rd.run]at he
  ·cases h
theorem DC{fn:Func}{A:List AVal}{a:Act}{vs:List AVal}(hi:Inv g H w)(hl:RL g w A a.tmps.toList)(h:qB P A H fn.results.toList=some vs):
 ∃x,(results fn a.tmps).run P w=.ok x w∧R g w (tU vs) x:=by
 have key:∀(l:List ResultVar) (vs:List AVal),qB P A H l=some vs→∃xs:List Value,
  (l.mapM (rT a.tmps)).run P w=.ok xs w∧RL g w vs xs:=by
  intro l;induction l with
  |nil=>intro vs h;simp[qB]at h;subst h;exact⟨[],by simp,by simp[RL]⟩
  |cons r rs ih=>
   intro vs h;simp only[qB]at h;split at h
   ·rename_i v vs' h1 h2;simp only[Option.some.injEq]at h;subst h;obtain⟨x,x1,x2⟩:=Ew hi hl r v h1;obtain⟨xs,y1,y2⟩:=ih vs' h2;refine⟨x::xs,?_,by grind [RL]⟩
    simp_all
   ·cases h
 obtain⟨xs,h1,h2⟩:=key _ _ h;have hlen:=(cK _ _ h2).1;have hm:(fn.results.mapM (rT a.tmps)).run P w=.ok xs.toArray w:=by
  rw[Array.mapM_eq_mapM_toList];simp only[Sem.run_map,h1,Result.andThen_ok]
 rw[Bm];simp only[Sem.run_bind,hm,Result.andThen_ok,Sem.run_pure];refine⟨if h:xs.toArray.size=1 then xs.toArray[0]else .tuple xs.toArray,?_,?_⟩
 ·rfl
 ·match vs,xs,h2,hlen with
  | [],[],h2,_=>simp[tU,R,RL]
  | [v],[x],h2,_=>simpa[tU,RL]using h2
  |v::v'::vs,x::x'::xs,h2,_=>
   grind [tU,R]
end
end Go.AM
end
section
namespace Go.AM
section
variable [ax] {P:Program} {cfg:dV} {orc:gF} {g:Gh} {H:List af} {w:World}
theorem tw{F:Fence}{n:Nat}{c:Code}{Q Q':Exit→Act→List Frame→World→Prop}{a:Act}{cs:List Frame}(h:c.wpSIn F n P Q a cs w)(hq:∀e a cs w,Q e a cs w→Q' e a cs w):c.wpSIn F n P Q' a cs w:=
 fun b k hb hr hF hroom=>let⟨e,a',cs',w',l,q,r⟩:=h b k hb hr hF hroom;⟨e,a',cs',w',l,hq _ _ _ _ q,r⟩
def fq(cs:List Frame):Value×List Frame:=
 match recoverD cs with
 |some p=>p
 |none=>(.nilIface,cs)
theorem zW(hm:P.follows .mixedOrders=true)(ho:eW P orc){fid n cur:Nat}:∀(c:Code) (d:Option Tmp) (rest:Code),kG c=some (d,rest)→∀(Q:Exit→Act→World→Prop) (s:St) (g:Gh) (a:Act) (cs:List Frame) (w:World) (out:aS) (s':St),
 exec P cfg orc none fid n cur rest s=some (out,s')→dy g s (a.put d (fq cs).1) w→dN Q g s.H w s' out→c.wpSIn (Fr none) 0 P (fun e a' cs' w'=>cs'=(fq cs).2∧Q e a' w') a cs w:=by
 intro c;induction c with
 |region id ops draw=>
  intro d rest h Q s g a cs w out s' hx hs hp;unfold kG at h;cases draw
  ·simp only at h;split at h
   ·rename_i o hops;split at h
    ·rename_i args tys hop hg;simp only[Option.some.injEq,Prod.mk.injEq]at h;obtain⟨rfl,rfl⟩:=h;simp only[exec,Option.some.injEq,Prod.mk.injEq]at hx;obtain⟨rfl,rfl⟩:=hx;refine wpSIn_region ?_;have hsz:ops.size=1:=by rw[← Array.length_toList,hops];rfl
     have h0:ops[0]? =some o:=by
      have:ops.toList[0]? =some o:=by rw[hops];rfl
      simpa using this
     rw[hsz];have hw:Region.wanted o (yielded ops a.tmps)=true:=by simp[Region.wanted,hg]
     have hex:(execOp a.eval o).run P w=.ok .recover w:=by
      simp[execOp,hop,resolve,invoke,builtin]
     show wpOpsSIn (Fr none) 0 P ops _ [0] a cs w;simp only[wpOpsSIn,h0,hw,if_true,hex];refine⟨fun _ _=>trivial,?_⟩
     have hq:=hp g _ w hs (aK.refl _ _ _);grind [fq]
    ·cases h
   ·cases h
  ·simp at h
 |seq x y ihx ihy=>
  intro d rest h Q s g a cs w out s' hx hs hp;simp only[kG]at h;split at h
  ·rename_i d' x' hsp;simp only[Option.some.injEq,Prod.mk.injEq]at h;obtain⟨rfl,rfl⟩:=h;simp only[exec]at hx;refine wpSIn_seq ?_;have hy:∀(s1:St) (g':Gh) (a':Act) (w':World),exec P cfg orc none fid n cur y s1=some (out,s')→dy g' s1 a' w'→dN Q g' s1.H w' s' out→
    y.wpSIn (Fr none) 0 P (fun e a' cs' w'=>cs'=(fq cs).2∧Q e a' w') a' (fq cs).2 w':=fun s1 g' a' w' h1 h2 h3=>
    wpSIn_of_wpIn rfl (wpIn_mono (nq hm ho (ro:=none) (fro:=none) y cur Q s1 g' a' w' out s' trivial h1 h2 h3) fun e a w h=>⟨rfl,h⟩)
   split at hx
   ·rename_i s1 hx1;refine tw (ihx d' x' hsp (fun e a' w'=>Exit.thenS (y.wpSIn (Fr none) 0 P (fun e a' cs' w'=>cs'=(fq cs).2∧Q e a' w')) (fun e a' cs' w'=>cs'=(fq cs).2∧Q e a' w') e a' (fq cs).2 w') s g a cs w .normal s1 hx1 hs fun g' a' w' hs' hla=>hy s1 g' a' w' hx hs' (hp.later hla)) ?_
    grind
   ·rename_i hne;refine tw (ihx d' x' hsp (fun e a' w'=>Exit.thenS (y.wpSIn (Fr none) 0 P (fun e a' cs' w'=>cs'=(fq cs).2∧Q e a' w')) (fun e a' cs' w'=>cs'=(fq cs).2∧Q e a' w') e a' (fq cs).2 w') s g a cs w out s' hx hs ?_) ?_
    ·cases out with
     |normal=>exact absurd hx (hne s')
     |exit id=>exact fun g' a' w' h1 h2=>⟨rfl,hp g' a' w' h1 h2⟩
     |ret=>exact fun g' a' w' h1 h2=>⟨rfl,hp g' a' w' h1 h2⟩
     |aM v=>exact fun g' a' w' x hv h1 h2 h3=>⟨rfl,hp g' a' w' x hv h1 h2 h3⟩
    grind
  ·cases h
 |_=>grind [kG]
theorem qE{args:List AVal}{vs:Array Value}(h:RL g w args vs.toList)(k:Nat):RL g w (iF k args) (vs++Array.replicate (k - vs.size) undef).toList:=by
 unfold iF;rw[cR];have hl:=(cK _ _ h).1;simp only[Array.length_toList]at hl;simp only[Array.toList_append,Array.toList_replicate,← hl];refine dn h ?_;generalize k - vs.size=m;induction m with
 |zero=>simp[RL]
 |succ m ih=>grind [RL,uY]
def jF(g:Gh)(w:World):Option AVal→FrameMode→Prop
 |none,u=>u=.returning
 |some v,u=>v.flat=true∧∃x,u=.panicking [{v:=x,recovered:=false}]∧R g w v x
theorem Inv.L5{b k z:Nat}{x:af}{ob:Obj}(hi:Inv g H w)(hb:H[b]? =some x)(hv:x.live=some 0)(hk:g.ai b 0=some (k,z))(hnc:w.shape? k=none):
 Inv g (H.set b .dead) (w.putObj k ob)∧aK g H w g (H.set b .dead) (w.putObj k ob):=by
 have hfree:∀o,¬g.st k o:=fun o=>hi.free b x 0 k z o hb hv hk
 have ho:∀j,j≠k→(w.putObj k ob).heap[j]? =w.heap[j]? :=fun j hj=>World.putObj_heap_other hj
 have hext:Ext g w g (w.putObj k ob):=⟨fun _ _ _ h=>h,fun _ _ h=>h,fun k' o h=>gK (ho k' (fun e=>hfree o (e▸h))) o,fun j x hx=>by
  have hj:j≠k:=by rintro rfl;rw[hnc]at hx;cases hx
  simpa[World.shape?,World.putObj_heap_other (o:=ob) hj]using hx⟩
 have f:∀(b1:Nat) (x1:af),(H.set b af.dead)[b1]? =some x1→x1=.dead∨(b1≠b∧H[b1]? =some x1):=by
  intro b1 x1 h;rcases bu h with⟨rfl,he,_⟩ |⟨h1,h⟩
  ·exact .inl he
  ·exact .inr ⟨h1,h⟩
 refine⟨⟨fun b' x' h=>?_,fun b1 b2 x1 x2 v1 v2 k' z1 z2 h1 h2 l1 l2=>?_,fun b' ak h=>?_,fun b' x' v1 v2 h hl=>?_,fun b' x' v1 k' z' o h hl=>?_,fun k' o h=>by rw[World.putObj_size];exact hi.dc k' o h,hi.b9.mono hext⟩,
  ⟨hext,by simp_all,fun k' _ hn=>?_,?_,by simp,rfl,⟨rfl,Nat.le_of_eq rfl⟩,rfl,fun _ _ _ h=>.inl h,fun b1 hb1=>?_,fun _ ak _ z h=>.inl ⟨ak,z,h⟩⟩⟩
 ·rcases f _ _ h with rfl |⟨hne,h⟩
  ·trivial
  ·exact gq hext (hi.good b' x' h) (fun v' k' z' h1 h2=>ho k' (fun e=>hne (hi.inj b' b x' x v' 0 k z' z h hb h1 hv (e▸h2) hk))) fun _ _ h=>h
 ·rcases f _ _ h1 with rfl |⟨_,h1⟩
  ·cases l1
  ·rcases f _ _ h2 with rfl |⟨_,h2⟩
   ·cases l2
   ·exact hi.inj b1 b2 x1 x2 v1 v2 k' z1 z2 h1 h2 l1 l2
 ·grind [hi.fresh]
 ·rcases f _ _ h with rfl |⟨_,h⟩
  ·cases hl
  ·exact hi.next b' x' v1 v2 h hl
 ·rcases f _ _ h with rfl |⟨_,h⟩
  ·cases hl
  ·exact hi.free b' x' v1 k' z' o h hl
 ·exact ho k' fun e=>hn (e▸⟨b,x,0,z,hb,hv,hk⟩)
 ·rintro k' _ ⟨b',x',v1,z1,h,hl,hz⟩;rcases f _ _ h with rfl |⟨_,h⟩
  ·cases hl
  ·exact⟨b',x',v1,z1,h,hl,hz⟩
 grind
theorem gZ(hm : P.follows .mixedOrders = true)(hN : ∀ (f : FuncId) (fn : Func), P.funcs[f]? = some fn → fn.name ≠ "runtime.NumGoroutine")(ho : eW P orc){n : Nat}{fn : Func}{A : List AVal}{a : Act}{r : aI}{H1 : List af}{g0 : Gh}{H0 : List af}{w0 : World} :
 ∀(D:List nG) (ds:List Deferred) (m:Option AVal) (u:FrameMode) (Hc:List af) (g:Gh) (w:World) (m':Option AVal) (H':List af),
 RD g w D ds→Inv g Hc w→RL g w A a.tmps.toList→jF g w m u→leave P cfg orc n D m Hc=some (m',H')→ending P fn A m' H'=some (r,H1)→aK g0 H0 w0 g Hc w→
 LeavesInM (Fr none) 0 P fn a.tmps (dL g0 H0 w0 r H1) ds u w
 | [],ds,m,u,Hc,g,w,m',H',hd,hi,hl,hmo,h,he,hla=>by
  simp only[RD]at hd;subst hd;simp only[leave,Option.some.injEq,Prod.mk.injEq]at h;obtain⟨rfl,rfl⟩:=h;cases m with
  |none=>
   simp only[jF]at hmo;subst hmo;simp only[ending]at he;split at he
   ·rename_i vs hvs;simp only[Option.some.injEq,Prod.mk.injEq]at he;obtain⟨rfl,rfl⟩:=he;obtain⟨x,h1,h2⟩:=DC hi hl hvs;exact⟨x,h1,g,hi,hla,x,rfl,h2⟩
   ·cases he
  |some v=>
   obtain⟨_,x,rfl,hr⟩:=hmo;simp only[ending,Option.some.injEq,Prod.mk.injEq]at he;obtain⟨rfl,rfl⟩:=he;exact⟨g,hi,hla,x,rfl,hr⟩
 | .call f args::D,ds,m,u,Hc,g,w,m',H',hd,hi,hl,hmo,h,he,hla=>by
  obtain⟨d,ds',rfl,⟨cap,htar,hargs⟩,hds⟩:=hd;simp only[leave]at h;split at h
  ·rename_i b Hd hdef;unfold deferred at hdef;split at hdef
   ·rename_i fnd hfn;split at hdef
    ·rename_i c hb;split at hdef
     ·rename_i dd rest hsp;have hargs':RL g w args (d.args++cap).toList:=by simpa using hargs
      have hinv:(invoke d.target d.args).run P w=.ok (.enter f (d.args++cap)) w:=by
       rw[htar];simp[invoke,kI hfn hb (hN f fnd hfn)]
      have hrun:u≠ .run:=by
       cases m with
       |none=>grind [jF]
       |some v=>obtain⟨_,x,rfl,_⟩:=hmo;simp
      refine⟨hrun,.inr ⟨k6 none,.func f,cap,f,d.args++cap,htar,hinv,fun _ _=>trivial,callsDIn_of_wpSIn hfn hb trivial fun c₀ cs hc0=>?_⟩⟩
      have hrec:∃x u',fq (c₀::cs)=(x,{c₀ with mode:=u'}::cs)∧R g w (m.getD (.sc .nilIface)) x∧jF g w (if m.isSome then none else m) (settle u'):=by
       cases m with
       |none=>
        simp only[jF]at hmo;subst hmo;refine⟨.nilIface,.returning,?_,by simp[R],by simp[jF,settle]⟩
        have:({c₀ with mode:=FrameMode.returning}:Frame)=c₀:=by rw[← hc0]
        rw[this];simp[fq,recoverD,hc0]
       |some v=>
        obtain⟨hv,x,rfl,hr⟩:=hmo;refine⟨x,.panicking [{v:=x,recovered:=true}],?_,hr,by simp[jF,settle]⟩
        simp[fq,recoverD,hc0]
      obtain⟨x,u',hrec,hrx,hmo'⟩:=hrec;have hsim:dy g ⟨fG (iF fnd.ntmps args) dd (m.getD (.sc .nilIface)),Hc,[]⟩ (({tmps:=(d.args++cap)++Array.replicate (fnd.ntmps - (d.args++cap).size) undef,defers:=[]}:Act).put dd (fq (c₀::cs)).1) w:=by
       refine⟨hi,jb (a:={tmps:=(d.args++cap)++Array.replicate (fnd.ntmps - (d.args++cap).size) undef,defers:=[]}) (qE hargs' _) (by rw[hrec];exact hrx) dd,by rw[put_defers];rfl⟩
      have hnext:∀(s1:St),s1.D.isEmpty=true→fnd.results.isEmpty=true→(m.isSome,s1.H)=(b,Hd)→∀g' a' w',dy g' s1 a' w'→aK g Hc w g' s1.H w'→
       a'.defers=[]∧∃u2,(fq (c₀::cs)).2={c₀ with mode:=u2}::cs∧∃v,(results fnd a'.tmps).run P w'=.ok v w'∧LeavesInM (Fr none) 0 P fn a.tmps (dL g0 H0 w0 r H1) ds' (settle u2) w':=by
       intro s1 hD hR hb2 g' a' w' hs' hla';simp only[Prod.mk.injEq]at hb2;obtain⟨rfl,rfl⟩:=hb2;refine⟨?_,u',by rw[hrec],.tuple #[],?_,?_⟩
       ·have:=hs'.defs;have hDe:s1.D=[]:=by simpa using hD
        rw[hDe]at this;exact this
       ·have:fnd.results= #[]:=by simpa using hR
        rw[Bm,this];simp
       ·refine gZ hm hN ho D ds' _ (settle u') s1.H g' w' m' H' (cT hla'.ext _ _ hds) hs'.inv (bq hla'.ext _ _ hl) ?_ h he (hla.trans hla');cases m with
        |none=>simpa[jF]using hmo'
        |some v=>simpa[jF]using hmo'
      split at hdef
      ·rename_i s1 hex;split at hdef
       ·rename_i hc;simp only[Bool.and_eq_true]at hc;simp only[Option.some.injEq]at hdef;refine tw (zW hm ho c dd rest hsp (fun e a' w'=>match e with | .normal=>a'.defers=[]∧∃u2,(fq (c₀::cs)).2={c₀ with mode:=u2}::cs∧∃v,(results fnd a'.tmps).run P w'=.ok v w'∧LeavesInM (Fr none) 0 P fn a.tmps (dL g0 H0 w0 r H1) ds' (settle u2) w' |_=>False) _ g _ (c₀::cs) w .normal s1 hex hsim (hnext s1 hc.1 hc.2 hdef)) ?_
        rintro e a' cs' w' ⟨rfl,hq⟩;cases e with
        |normal=>exact hq
        |_=>exact hq.elim
       ·cases hdef
      ·rename_i s1 hex;split at hdef
       ·rename_i hc;simp only[Bool.and_eq_true]at hc;simp only[Option.some.injEq]at hdef;refine tw (zW hm ho c dd rest hsp (fun e a' w'=>match e with | .ret=>a'.defers=[]∧∃u2,(fq (c₀::cs)).2={c₀ with mode:=u2}::cs∧∃v,(results fnd a'.tmps).run P w'=.ok v w'∧LeavesInM (Fr none) 0 P fn a.tmps (dL g0 H0 w0 r H1) ds' (settle u2) w' |_=>False) _ g _ (c₀::cs) w .ret s1 hex hsim (hnext s1 hc.1 hc.2 hdef)) ?_
        rintro e a' cs' w' ⟨rfl,hq⟩;cases e with
        |ret=>exact hq
        |_=>exact hq.elim
       ·cases hdef
      ·cases hdef
     ·cases hdef
    ·cases hdef
   ·cases hdef
  ·cases h
 | .mark b::D,ds,m,u,Hc,g,w,m',H',hd,hi,hl,hmo,h,he,hla=>by
  obtain⟨d,ds',rfl,⟨k,sz,hk,htar⟩,hds⟩:=hd;simp only[leave]at h;split at h
  ·rename_i hb;obtain⟨k0,q1,q2⟩:=hi.good b _ hb;rw[hk]at q1;simp only[Option.some.injEq,Prod.mk.injEq]at q1;obtain⟨rfl,_⟩:=q1;have hrun:u≠ .run:=by
    cases m with
    |none=>grind [jF]
    |some v=>obtain⟨_,x,rfl,_⟩:=hmo;simp
   obtain⟨i1,l1⟩:=hi.L5 (ob:=.deferred none) hb rfl hk (by simp[World.shape?,q2])
   refine⟨hrun,.inl ⟨k,_,htar,run_takeDeferred q2,?_⟩⟩;refine gZ hm hN ho D ds' m u _ g _ m' H' (cT l1.ext _ _ hds) i1 (bq l1.ext _ _ hl) ?_ h he (hla.trans l1);cases m with
   |none=>exact hmo
   |some v=>obtain⟨hv,x,hx,hr⟩:=hmo;exact⟨hv,x,hx,jx l1.ext _ _ hr⟩
  ·cases h
theorem Ex(hm : P.follows .mixedOrders = true)(hN : ∀ (f : FuncId) (fn : Func), P.funcs[f]? = some fn → fn.name ≠ "runtime.NumGoroutine")(ho : eW P orc){n : Nat}{f : FuncId}{args : List AVal}{H : List af}{r : aI}{H1 : List af}(h : Bc P cfg orc n f args H = some (r, H1)) :
 (∃ fn c, P.funcs[f]? = some fn ∧ fn.body = some c ∧ fn.name ≠ "runtime.NumGoroutine") ∧
 ∀g w (vs:Array Value),Inv g H w→RL g w args vs.toList→Calls P f vs w (dL g H w r H1):=by
 unfold Bc at h;split at h
 ·rename_i fn hf;split at h
  ·rename_i c hb;refine⟨⟨fn,c,hf,hb,hN f fn hf⟩,fun g w vs hi hl=>callsIn_wide.1 (callsIn_of_wp_marks (F:=Fr none) (n:=0) hf hb trivial ?_)⟩
   have hsim:dy g ⟨iF fn.ntmps args,H,[]⟩ {tmps:=vs++Array.replicate (fn.ntmps - vs.size) undef,defers:=[]} w:=⟨hi,qE hl _,rfl⟩;split at h
   ·rename_i s1 hex;split at h
    ·rename_i m H' hlv;exact nq hm ho (ro:=none) (fro:=none) c 0 _ _ g _ w .normal s1 trivial hex hsim fun g' a' w' hs' hla=>gZ hm hN ho s1.D a'.defers none .returning s1.H g' w' m H' hs'.defs hs'.inv hs'.tmps rfl hlv h hla
    ·cases h
   ·rename_i s1 hex;split at h
    ·rename_i m H' hlv;exact nq hm ho (ro:=none) (fro:=none) c 0 _ _ g _ w .ret s1 trivial hex hsim fun g' a' w' hs' hla=>gZ hm hN ho s1.D a'.defers none .returning s1.H g' w' m H' hs'.defs hs'.inv hs'.tmps rfl hlv h hla
    ·cases h
   ·rename_i v s1 hex;split at h
    ·rename_i m H' hlv;exact nq hm ho (ro:=none) (fro:=none) c 0 _ _ g _ w (.aM v) s1 trivial hex hsim fun g' a' w' x hv hs' hla hr=>gZ hm hN ho s1.D a'.defers (some v) (.panicking [{v:=x,recovered:=false}]) s1.H g' w' m H' hs'.defs hs'.inv hs'.tmps ⟨hv,x,rfl,hr⟩ hlv h hla
    ·cases h
   ·cases h
  ·cases h
 ·cases h
theorem uZ:∀(ts:List Tmp) (as:List AVal) (A:List AVal) (xs:List Value) (tmps:Array Value),RL g w A tmps.toList→RL g w as xs→
 RL g w (nZ A ts as) ((ts.zip xs).foldl (fun(tmps:Array Value) (p:Tmp×Value)=>tmps.setIfInBounds p.1 p.2) tmps).toList
 | [],as,A,xs,tmps,h,_=>by simpa[nZ]using h
 |t::ts,[],A,xs,tmps,h,hx=>by
  simp only[RL]at hx;subst hx;simpa[nZ]using h
 |t::ts,a::as,A,xs,tmps,h,hx=>by
  simp only[RL]at hx;obtain⟨x,xs,rfl,h1,h2⟩:=hx;simp only[nZ,kD,List.zip_cons_cons,List.foldl_cons];exact uZ ts as _ xs _ (by grind [HR]) h2
theorem tX(r:Loop)(ps:List Tmp)(vs:Array Value)(h:r.params=ps.toArray):iY r vs=(ps.zip vs.toList).foldl (fun(tmps:Array Value) (p:Tmp×Value)=>tmps.setIfInBounds p.1 p.2) r.tmps:=by
 unfold iY;rw[h,← Array.foldl_toList];simp[Array.toList_zip]
theorem tY{b k:Nat}{st:LoopState}{pend:Option Code}{H H2:List af}{g:Gh}{w:World}{sz:Nat}(hi:Inv g H w)(hk:g.ai b 0=some (k,sz))(h:marked b st pend H=some H2):
 ∃r,w.heap[k]? =some (.loop r)∧Inv g H2 (w.putObj k (.loop {r with state:=st,pending:=pend}))∧aK g H w g H2 (w.putObj k (.loop {r with state:=st,pending:=pend})):=by
 unfold marked at h;split at h
 ·rename_i st0 pend0 fid A ps assign body hb;simp only[Option.some.injEq]at h;subst h;obtain⟨k0,tmps0,dk0,fn0,q1,q2,q3⟩:=hi.good b _ hb;rw[hk]at q1;simp only[Option.some.injEq,Prod.mk.injEq]at q1;obtain⟨rfl,rfl⟩:=q1;exact⟨_,q2,hi.put hb rfl hk rfl (oc q2) fun hext=>⟨_,tmps0,dk0,fn0,hk,World.putObj_heap_same (Array.getElem?_eq_some_iff.1 q2).1,bq hext _ _ q3⟩⟩
 ·cases h
theorem DD(hm:P.follows .mixedOrders=true)(ho:eW P orc){n b:Nat}{args:List AVal}{H:List af}{r:aI}{H1:List af}(h:roundOf P cfg orc n b args H=some (r,H1)):
 ∀g w (vs:Array Value) k sz,Inv g H w→RL g w args vs.toList→g.ai b 0=some (k,sz)→
 ∃rec,w.heap[k]? =some (.loop rec)∧vs.size=rec.params.size∧RoundIn Fence.wide 0 P k rec.fn (iY rec vs) rec.assign rec.body w (dL g H w r H1):=by
 intro g w vs k sz hi hl hk;unfold roundOf at h;split at h
 ·rename_i st pend fid A ps assign body hb;obtain⟨k0,tmps0,dk0,fn0,q1,q2,q3⟩:=hi.good b _ hb;rw[hk]at q1;simp only[Option.some.injEq,Prod.mk.injEq]at q1;obtain⟨rfl,rfl⟩:=q1;split at h
  ·rename_i hlen;have hvs:=(cK _ _ hl).1;refine⟨_,q2,by grind,?_⟩
   rw[tX _ ps vs rfl];have hsim:dy g ⟨nZ A ps args,H,[]⟩ {tmps:=(ps.zip vs.toList).foldl (fun(tmps:Array Value) (p:Tmp×Value)=>tmps.setIfInBounds p.1 p.2) tmps0,defers:=[]} w:=
    ⟨hi,uZ ps args A _ tmps0 q3 hl,rfl⟩
   split at h
   ·rename_i s1 hex;split at h
    ·rename_i pend1 fid1 A1 ps1 as1 bd1 hb1;rw[cR]at h;refine roundIn_of_wpIn trivial ?_;refine nq hm ho (ro:=some b) (fro:=some k) assign 0 _ _ g _ w .normal s1 ⟨0,hk⟩ hex hsim fun g1 a1 w1 hs1 hla1=>?_
     have hk1:=hla1.ext.ai _ _ _ hk;obtain⟨k1,tmps1,dk1,fn1,u1,u2,u3⟩:=hs1.inv.good b _ hb1;rw[hk1]at u1;simp only[Option.some.injEq,Prod.mk.injEq]at u1;obtain⟨rfl,-⟩:=u1;refine⟨_,run_beginRound u2 rfl,?_⟩;obtain⟨i2,l2⟩:=hs1.inv.put (y:=.loop .busy pend1 fid1 A1 ps1 as1 bd1)
      (ob:=.loop {state:=.busy,pending:=pend1,fn:=fn1,tmps:=tmps1,params:=ps1.toArray,assign:=as1,body:=bd1,defers:=dk1}) hb1 rfl hk1 rfl (oc u2)
      fun hext=>⟨_,tmps1,dk1,fn1,hk1,World.putObj_heap_same (Array.getElem?_eq_some_iff.1 u2).1,bq hext _ _ u3⟩
     have hsim2:dy g1 {s1 with H:=s1.H.set b (.loop .busy pend1 fid1 A1 ps1 as1 bd1)} a1 (w1.putObj k (.loop {state:=.busy,pending:=pend1,fn:=fn1,tmps:=tmps1,params:=ps1.toArray,assign:=as1,body:=bd1,defers:=dk1})):=
      ⟨i2,bq l2.ext _ _ hs1.tmps,cT l2.ext _ _ hs1.defs⟩
     have hend:∀(j:Option Code) (s2:St),(∃H2,marked b (if j.isNone then .ready else .done) j s2.H=some H2∧some (aI.ret (.sc (.bool j.isNone)),H2)=some (r,H1))→∀g' a' w',dy g' s2 a' w'→aK g1 (s1.H.set b (.loop .busy pend1 fid1 A1 ps1 as1 bd1)) (w1.putObj k (.loop {state:=.busy,pending:=pend1,fn:=fn1,tmps:=tmps1,params:=ps1.toArray,assign:=as1,body:=bd1,defers:=dk1})) g' s2.H w'→
      ∃v w'',(Instr.endRound k j).run P w'=.ok v w''∧dL g H w r H1 (.returned v) w'':=by
      rintro j s2 ⟨H2,hmk,he⟩ g' a' w' hs' hla';simp only[Option.some.injEq,Prod.mk.injEq]at he;obtain⟨rfl,rfl⟩:=he;obtain⟨rr,e1,e2,e3⟩:=tY hs'.inv (hla'.ext.ai _ _ _ hk1) hmk;exact⟨_,_,run_endRound j e1,g',e2,hla1.trans (l2.trans (hla'.trans e3)),_,rfl,by simp[R]⟩
     split at h
     ·rename_i out s2 hex2;split at h
      ·rename_i j hj;split at h
       ·rename_i H2 hmk;refine nq hm ho (ro:=some b) (fro:=some k) body 0 _ _ g1 a1 _ out s2 ⟨0,hk1⟩ hex2 hsim2 ?_;cases out with
        |normal=>
         simp only[mF,Option.some.injEq]at hj;subst hj;exact fun g' a' w' h1 h2=>hend none s2 ⟨H2,hmk,h⟩ g' a' w' h1 h2
        |ret=>
         simp only[mF,Option.some.injEq]at hj;subst hj;exact fun g' a' w' h1 h2=>hend (some .ret) s2 ⟨H2,hmk,h⟩ g' a' w' h1 h2
        |exit id=>
         simp only[mF,Option.some.injEq]at hj;subst hj;exact fun g' a' w' h1 h2=>hend (some (.exit id)) s2 ⟨H2,hmk,h⟩ g' a' w' h1 h2
        |aM v=>cases hj
       ·cases h
      ·cases h
     ·cases h
    ·cases h
   ·cases h
  ·cases h
 ·cases h
end
end Go.AM
end
