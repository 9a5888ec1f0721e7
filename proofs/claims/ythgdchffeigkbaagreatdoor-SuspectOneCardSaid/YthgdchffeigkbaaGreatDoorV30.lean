import Derived.Test.YthgdchffeigkbaaGreatDoorV26
import Derived.Test.YthgdchffeigkbaaGreatDoorV28
set_option linter.unusedVariables false
set_option linter.unusedSimpArgs false
namespace Go.Proofs.YthgdchffeigkbaaGreatDoor
variable {D : Int} {H : Nat} {q : Rat}
section
def Zt(D:Int)(H:Nat)(q:Rat):Prop:=∃z:Int,q*(D:Rat)=(z:Rat)/\z.natAbs<=H
theorem Zt.more{H':Nat}(h:Zt D H q)(hh:H<=H'):Zt D H' q:=by
 obtain⟨z,h1,h2⟩:=h;exact⟨z,h1,cO h2 hh⟩
theorem Zt.add{H':Nat}{p:Rat}(hp:Zt D H p)(hq:Zt D H' q):Zt D (H+H') (p+q):=by
 obtain⟨a,h1,h2⟩:=hp;obtain⟨b,h3,h4⟩:=hq;refine⟨a+b,by rw[Rat.add_mul,h1,h3,Rat.intCast_add],?_⟩;have:=Int.natAbs_add_le a b;omega
theorem Zt.int(z:Int):Zt 1 z.natAbs (z:Rat):=⟨z,by rw[show((1:Int):Rat)=1 from rfl,Rat.mul_one],lR⟩
theorem Zt.zero(D:Int):Zt D 0 0:=⟨0,by rw[Rat.zero_mul];rfl,lR⟩
theorem Zt.fits{a b:Nat}(h:Zt D H q)(h0:D≠0)(h1:H<=jG a)(h2:D.natAbs<=jG b)(ha:a<2000)(hb:b<2000):bP q:=by
 obtain⟨z,h3,h4⟩:=h;have key:∀(D:Nat)(z:Int),q*(((D:Nat):Int):Rat)=(z:Rat)->D≠0->z.natAbs<=H->D<=jG b->bP q:=fun D z h3 h0 h4 h2=>by
  have bX:((D:Int):Rat)≠0:=by
   intro e;have:((D:Int):Rat)=((0:Int):Rat):=e;rw[Rat.intCast_inj] at this;omega
  have e:q=Rat.divInt z D:=by
   rw[Rat.divInt_eq_div,<-h3,Rat.mul_div_cancel bX]
  have hp:∀{c k:Nat},c<k->jG c<10^k:=fun hc=>Nat.pow_lt_pow_right (by decide) hc;have ht:Tn 2000 q:=by
   rw[e];exact aBi h0 (zT_ (cO h4 h1) (hp (k:=2000) ha)) (zT_ h2 (hp (k:=2000) hb))
  exact ht.fits lR
 by_cases hd:0<=D
 ·refine key D.natAbs z ?_ (by omega) h4 h2
  rw[Int.natAbs_of_nonneg hd];exact h3
 ·refine key D.natAbs (-z) ?_ (by omega) (by rw[Int.natAbs_neg];exact h4) h2
  have e:((D.natAbs:Nat):Int)=-D:=by omega
  rw[e,Rat.intCast_neg,Rat.intCast_neg,<-h3];grind
section
variable {x:bO} {ms:List Mi}
structure Sml (x:bO) (ms:List Mi):Prop where
 ok:bJ x
 h8:x.nodes.length<=8
 h10:x.brs.length<=10
 k8:ms.length<=8
 mi:∀m∈ms,vW x m
 tn:∀m∈ms,Tn 25 (gC m.txt)
 wt:∀m∈ms,1<=m.wt/\m.wt<=1000
theorem aGO{l:List Rat}(h:q∈l):q.den∣TQ x l:=by
 unfold TQ;exact Nat.dvd_trans (TP h) (Nat.dvd_trans (Nat.dvd_mul_left _ _) (Nat.dvd_mul_right _ _))
theorem aCC{l:List Rat}:sI x.brs*1000∣TQ x l:=by
 unfold TQ;exact⟨PP l,by rw[Nat.mul_right_comm]⟩
def VD(x:bO)(ms:List Mi):Nat:=TQ x (ms.map fun m=>gC m.txt)
theorem Sml.vD(h:Sml x ms):VD x ms≠0/\VD x ms<=jG 283:=by
 have h1:=X3 (al:=ms.map fun m=>gC m.txt) h.ok h.h10 (fun q hq=>by obtain⟨m,hm,rfl⟩:=List.mem_map.1 hq;exact h.tn m hm) (by rw[jO];exact h.k8);unfold VD jG;exact h1
theorem Sml.val(h:Sml x ms){k:Nat}(hk:k<ms.length):Ot (VD x ms) (10^25+80000) (yF x ms k):=by
 obtain⟨m,hm⟩:∃m,ms[k]?=some m:=⟨_,iB hk⟩;have xA:=bV hm;unfold yF;rw[hm];have h1:=WG (aLm (h.tn m xA)) (aGO (x:=x) (List.mem_map.2 ⟨m,xA,rfl⟩:gC m.txt∈ms.map fun m=>gC m.txt));have h2:=WG (WF (aGu h.ok h.h10 (h.mi m xA)).fr) (aCC (x:=x) (l:=ms.map fun m=>gC m.txt));have h3:=OR h1 h2;show Ot _ _ (gC m.txt-(aS x m).2);rw[Rat.sub_eq_add_neg];exact h3
theorem Sml.short(h:Sml x ms)(hr:mX x ms){y a:Fn}(ha:(lsY x ms y).Sol a){V:Rat}{B:Nat}(hB:1<=B){Y:Nat->Int}(hY:∀k,k<ms.length->y k*V=(Y k:Rat))(hYB:∀k,k<ms.length->(Y k).natAbs<=B):∃t:Int,t≠0/\t.natAbs<=jG 396/\(∀i,i<(aA x).length->∃z:Int,z.natAbs<=B*jG 396/\V*a i*(t:Rat)=(z:Rat))/\∀k,k<ms.length->∃z:Int,z.natAbs<=B*jG 396/\V*(lsY x ms y).res a k*(t:Rat)=(z:Rat):=
 (aOU h.ok h.mi h.wt y).short (fZ h.ok h.h8) h.h10 h.k8 ((xH fun m hm=>(h.wt m hm).1).1 hr) ha hB hY hYB
theorem Sml.own(h:Sml x ms)(hr:mX x ms):∃D:Int,D≠0/\D.natAbs<=jG 679/\(∀i,i<(aA x).length->Zt D (jG 706) (nY x ms i))/\∀k,k<ms.length->Zt D (jG 706) ((cU x ms).res (nY x ms) k):=by
 obtain⟨h1,h2⟩:=h.vD;have hv:∀k,∃z:Int,k<ms.length->yF x ms k*((VD x ms:Int):Rat)=(z:Rat)/\z.natAbs<=jG 310:=fun k=>by
  by_cases hk:k<ms.length
  ·obtain⟨z,h3,h4⟩:=h.val hk
   refine⟨z,fun _=>⟨h3,cO h4 ?_⟩⟩;have h5:10^25+80000<=jG 26:=by decide
   exact cO (Nat.mul_le_mul h5 h2) (FG (by decide))
  ·exact⟨0,fun e=>absurd e hk⟩
 have hB:1<=jG 310:=aLc _;obtain⟨t,h3,h4,h5,h6⟩:=h.short hr (y:=yF x ms) (a:=nY x ms) (aAy hr) (V:=((VD x ms:Int):Rat)) (B:=jG 310) hB (Y:=fun k=>(hv k).choose) (fun k hk=>((hv k).choose_spec hk).1) (fun k hk=>((hv k).choose_spec hk).2);have h7:jG 310*jG 396<=jG 706:=FG (by decide);refine⟨(VD x ms:Int)*t,?_,?_,fun i hi=>?_,fun k hk=>?_⟩
 ·intro e
  rcases Int.mul_eq_zero.1 e with e | e
  ·omega
  ·exact h3 e
 ·rw[Int.natAbs_mul,Int.natAbs_natCast]
  exact cO (Nat.mul_le_mul h2 h4) (FG (by decide))
 ·obtain⟨z,e1,e2⟩:=h5 i hi
  exact⟨z,by rw[Rat.intCast_mul,<-e2];grind,cO e1 h7⟩
 ·obtain⟨z,e1,e2⟩:=h6 k hk
  refine⟨z,?_,cO e1 h7⟩;have e3:(lsY x ms (yF x ms)).res (nY x ms) k=(cU x ms).res (nY x ms) k:=rfl;rw[e3] at e2;rw[Rat.intCast_mul,<-e2];grind
end
end
