/- A function by content that hands back a row of its own, handed memory of ours: ours stays. No program. -/
import Derived.Test.YtiohninblcifpaaGreatDoorAd
set_option linter.unusedSectionVars false
set_option linter.unusedVariables false
namespace Go.AM
section
variable [ax]
theorem BC{g g2:Gh}{w w2:World}{c:Array Value}:∀(l:List AVal) (o:Nat),l.all AVal.flat=true→cC g w c l o→cC g2 w2 c l o
 | [],_,_,_=>trivial
 |a::as,o,hf,h=>by
  simp only[List.all_cons,Bool.and_eq_true]at hf;obtain⟨⟨y,h1,h2,h3⟩,h4⟩:=h;exact⟨⟨y,h1,h2,hU a y hf.1 h3⟩,BC as (o+1) hf.2 h4⟩
theorem Dj{g g2:Gh}{w w2:World}{c:Array Value}{sz:Nat}:∀(l:List (List AVal)) (o:Nat),(l.all fun r=>r.all AVal.flat)=true→ez g w c sz l o→ez g2 w2 c sz l o
 | [],_,_,_=>trivial
 |r::rs,o,hf,h=>by
  simp only[List.all_cons,Bool.and_eq_true]at hf;obtain⟨⟨h1,h2⟩,h3⟩:=h;exact⟨⟨h1,BC r o hf.1 h2⟩,Dj rs (o+sz) hf.2 h3⟩
variable {P:Program}
theorem bB.LC{f:FuncId}{args args':List AVal}{H:List af}{sz m:Nat}{rows:List (List AVal)}(h:bB P f args' [] (.ret (.sl 0 0 sz 0 m)) [.row 0 sz rows])(hs:(gE (snap fm) args).run H=some args')(hf:(rows.all fun r=>r.all AVal.flat)=true):
 bB P f args H (.ret (.sl H.length 0 sz 0 m)) (H++[.row 0 sz rows]):=by
 refine⟨h.1,fun g w vs hi hl=>?_⟩
 obtain⟨hl',_⟩:=vr hi hs hl;refine(h.2 (gy g H) w vs hi.gy hl').mono fun e w' ⟨g1,hi1,hla,x,he,hx⟩=>?_
 obtain⟨i1,i2⟩:=hi.frame (fun k hk=>hla.keep k hk dS) hla.size hla.os hla.tape hla.output
 have new:∀v k z,g1.ai 0 v=some (k,z)→w.heap.size≤k:=fun v k z hk=>by
  rcases hla.mz 0 v k z hk with⟨v',z',h'⟩ |h'
  ·cases h'
  ·exact h'
 let g':Gh:=⟨fun b v=>if b=H.length then g1.ai 0 v else g.ai b v,g.st⟩
 have gn:∀v,g'.ai H.length v=g1.ai 0 v:=fun v=>by simp[g']
 have gl:∀b v,b≠H.length→g'.ai b v=g.ai b v:=fun b v hb=>by simp[g',hb]
 have low:∀b x,(H++[af.row 0 sz rows])[b]? =some x→(b<H.length∧H[b]? =some x)∨(b=H.length∧x=.row 0 sz rows):=fun b x hb=>by
  rw[List.getElem?_append]at hb;split at hb
  ·rename_i hlt;exact .inl ⟨hlt,hb⟩
  ·rename_i hge;have:b - H.length=0:=by
    have:=(List.getElem?_eq_some_iff.1 hb).1;simp at this;omega
   rw[this]at hb;simp at hb;exact .inr ⟨by omega,hb.symm⟩
 have rext:∀b v y,g.ai b v=some y→g'.ai b v=some y:=fun b v y hy=>by
  by_cases hb:b=H.length
  ·subst hb;rw[hi.fresh _ v (.inr (Nat.le_refl _))]at hy;cases hy
  ·rw[gl b v hb];exact hy
 have ext:Ext g w' g' w':=⟨rext,fun _ _ h=>h,fun _ _ _=>rfl,fun _ _ h=>h⟩
 have jL:∀{b:Nat} {x:af} {v k z:Nat},H[b]? =some x→x.live=some v→g.ai b v=some (k,z)→k<w.heap.size:=fun h1 h2 h3=>hi.jL h1 h2 h3
 have hx':R g' w' (.sl H.length 0 sz 0 m) x:=by
  simp only[R]at hx ⊢;rw[gn];exact hx
 refine⟨g',⟨?_,?_,?_,?_,?_,i1.dc,i1.b9.mono ext⟩,⟨⟨rext,fun _ _ h=>h,i2.ext.cell,i2.ext.shape⟩,i2.size,i2.keep,?_,by simp,i2.os,i2.tape,i2.output,fun k o _ hst=>.inl hst,?_,?_⟩,x,he,hx'⟩
 ·intro b y hb;rcases low b y hb with⟨hlt,hy⟩ |⟨rfl,rfl⟩
  ·exact gq ext (i1.good b y hy) (fun _ _ _ _ _=>rfl) fun v _ hn=>by rw[gl b v (by omega)];exact hn
  ·rcases hi1.good 0 _ rfl with⟨k,c,e,h1,h2,h3,h4,h5⟩ |⟨h1,h2,h3⟩
   ·exact .inl ⟨k,c,e,by rw[gn];exact h1,h2,Dj rows 0 hf h3,h4,h5⟩
   ·exact .inr ⟨h1,by rw[gn];exact h2,h3⟩
 ·intro b b' y y' v v' k z z' h1 h2 l1 l2 r1 r2;rcases low b y h1 with⟨hlt,hy⟩ |⟨rfl,rfl⟩
  ·rw[gl b v (by omega)]at r1
   rcases low b' y' h2 with⟨hlt',hy'⟩ |⟨rfl,rfl⟩
   ·rw[gl b' v' (by omega)]at r2
    exact i1.inj b b' y y' v v' k z z' hy hy' l1 l2 r1 r2
   ·rw[gn]at r2;have:=new v' k z' r2;have:=jL hy l1 r1;omega
  ·rw[gn]at r1;rcases low b' y' h2 with⟨hlt',hy'⟩ |⟨rfl,rfl⟩
   ·rw[gl b' v' (by omega)]at r2
    have:=new v k z r1;have:=jL hy' l2 r2;omega
   ·rfl
 ·intro b ak hc;have hb:b≠H.length:=by
   rintro rfl;rcases hc with hc |hc
   ·simp at hc
   ·simp at hc;omega
  rw[gl b ak hb];refine hi.fresh b ak ?_;rcases hc with hc |hc
  ·rcases low b _ hc with⟨_,hy⟩ |⟨rfl,hy⟩
   ·exact .inl hy
   ·cases hy
  ·simp at hc;exact .inr (by omega)
 ·intro b y v ver' hb hv hlt;rcases low b y hb with⟨hlt',hy⟩ |⟨rfl,rfl⟩
  ·rw[gl b ver' (by omega)];exact hi.next b y v ver' hy hv hlt
  ·rw[gn];exact hi1.next 0 _ v ver' rfl hv hlt
 ·intro b y v k z o hb hv hk;rcases low b y hb with⟨hlt',hy⟩ |⟨rfl,rfl⟩
  ·rw[gl b v (by omega)]at hk
   exact hi.free b y v k z o hy hv hk
  ·rw[gn]at hk;intro hst;have:=hi.dc k o hst;have:=new v k z hk;omega
 ·intro k hk ⟨b,y,v,z,h1,h2,h3⟩;rcases low b y h1 with⟨hlt,hy⟩ |⟨rfl,rfl⟩
  ·rw[gl b v (by omega)]at h3
   exact⟨b,y,v,z,hy,h2,h3⟩
  ·rw[gn]at h3;have:=new v k z h3;omega
 ·intro b hb;have hlt:=(List.getElem?_eq_some_iff.1 hb).1;exact⟨by rw[List.getElem?_append_left hlt];exact hb,fun ak=>gl b ak (by omega)⟩
 ·intro b ak k z hk;by_cases hb:b=H.length
  ·subst hb;rw[gn]at hk;exact .inr (new ak k z hk)
  ·rw[gl b ak hb]at hk;exact .inl ⟨ak,z,hk⟩
structure Jy(P:Program)[ax]:Type 1 where
 f:FuncId
 X:Type
 args:X→List AVal
 α:Type
 sz:Nat
 enc:α→List AVal
 hf:∀a,(enc a).all AVal.flat=true
 S:Nat→X→Option (List α)
 ok:∀n x r,S n x=some r→bB P f (args x) [] (.ret (.sl 0 0 sz 0 r.length)) [.row 0 sz (r.map enc)]
def Jy.look(c:Jy P)(H:List af)(wj:List AVal)(x:c.X)(hs:(gE (snap fm) wj).run H=some (c.args x)):qF P where
 f:=c.f
 X:=Unit
 args:=fun _=>wj
 heap:=fun _=>H
 sh:=.one (List c.α)
 out:=fun(r:List c.α)=>.ret (.sl H.length 0 c.sz 0 r.length)
 fu:=fun _ (r:List c.α)=>H++[.row 0 c.sz (r.map c.enc)]
 S:=fun n _=>c.S n x
 ok:=fun n _ (r:List c.α) h=>(c.ok n x r h).LC hs (by
  rw[List.all_map,List.all_eq_true];intro a _;exact c.hf a)
end
end Go.AM
