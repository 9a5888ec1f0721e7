import Derived.Test.YthgdchffeigkbaaGreatDoorU37
import Derived.Test.YthgdchffeigkbaaGreatDoorU40
set_option linter.unusedVariables false
set_option linter.unusedSimpArgs false
namespace Go.Proofs.YthgdchffeigkbaaGreatDoor
section
def Zt (D:Int) (H:Nat) (q:Rat):Prop:=∃ z:Int,q*(D:Rat)=(z:Rat)∧z.natAbs≤H
theorem Zt.more {D:Int} {H H':Nat} {q:Rat} (h:Zt D H q) (hh:H≤H'):Zt D H' q:=by
 obtain ⟨z,h1,h2⟩:=h;exact ⟨z,h1,zI_ h2 hh⟩
theorem Zt.add {D:Int} {H H':Nat} {p q:Rat} (hp:Zt D H p) (hq:Zt D H' q):Zt D (H+H') (p+q):=by
 obtain ⟨a,h1,h2⟩:=hp;obtain ⟨b,h3,h4⟩:=hq;refine ⟨a+b,by rw [Rat.add_mul,h1,h3,Rat.intCast_add],?_⟩;have:=Int.natAbs_add_le a b;omega
theorem Zt.mul {D E:Int} {H H':Nat} {p q:Rat} (hp:Zt D H p) (hq:Zt E H' q):Zt (D*E) (H*H') (p*q):=by
 obtain ⟨a,h1,h2⟩:=hp;obtain ⟨b,h3,h4⟩:=hq;refine ⟨a*b,?_,?_⟩
 ·rw [Rat.intCast_mul,Rat.intCast_mul,←h1,←h3]
  grind
 ·rw [Int.natAbs_mul]
  exact Nat.mul_le_mul h2 h4
theorem Zt.int (z:Int):Zt 1 z.natAbs (z:Rat):=⟨z,by rw [show ((1:Int):Rat)=1 from rfl,Rat.mul_one],lR⟩
theorem Zt.zero (D:Int):Zt D 0 0:=⟨0,by rw [Rat.zero_mul];rfl,lR⟩
theorem Zt.sum {D:Int} {H:Nat} {f:Fn}:∀ {n:Nat},(∀ k,k<n→Zt D H (f k))→Zt D (n*H) (sumTo n f)
 | 0,_=>by rw [Nat.zero_mul];exact Zt.zero D
 | n+1,h=>by
  rw [Nat.add_mul,Nat.one_mul];exact (Zt.sum fun k hk=>h k (by omega)).add (h n (by omega))
theorem Zt.fits {D:Int} {H a b:Nat} {q:Rat} (h:Zt D H q) (h0:D≠0) (h1:H≤tenP a) (h2:D.natAbs≤tenP b) (ha:a<2000) (hb:b<2000):Fits q:=by
 obtain ⟨z,h3,h4⟩:=h;have key:∀ (D:Nat) (z:Int),q*(((D:Nat):Int):Rat)=(z:Rat)→D≠0→z.natAbs≤H→D≤tenP b→Fits q:=fun D z h3 h0 h4 h2=>by
  have hne:((D:Int):Rat)≠0:=by
   intro e;have:((D:Int):Rat)=((0:Int):Rat):=e;rw [Rat.intCast_inj] at this;omega
  have e:q=Rat.divInt z D:=by
   rw [Rat.divInt_eq_div,←h3,Rat.mul_div_cancel hne]
  have hp:∀ {c k:Nat},c<k→tenP c<10^k:=fun hc=>Nat.pow_lt_pow_right (by decide) hc;have ht:Tn 2000 q:=by
   rw [e];exact tn_divInt h0 (zT_ (zI_ h4 h1) (hp (k:=2000) ha)) (zT_ h2 (hp (k:=2000) hb))
  exact ht.fits lR
 by_cases hd:0≤D
 ·refine key D.natAbs z ?_ (by omega) h4 h2
  rw [Int.natAbs_of_nonneg hd];exact h3
 ·refine key D.natAbs (-z) ?_ (by omega) (by rw [Int.natAbs_neg];exact h4) h2
  have e:((D.natAbs:Nat):Int)=-D:=by omega
  rw [e,Rat.intCast_neg,Rat.intCast_neg,←h3];grind
section
variable {x:Net} {ms:List Mi}
structure Sml (x:Net) (ms:List Mi):Prop where
 ok:NetOk x
 h8:x.nodes.length≤8
 h10:x.brs.length≤10
 k8:ms.length≤8
 mi:∀ m∈ms,MiOk x m
 tn:∀ m∈ms,Tn 25 (qOf m.txt)
 wt:∀ m∈ms,1≤m.wt∧m.wt≤1000
theorem denM_dvd {q:Rat} {l:List Rat} (h:q∈l):q.den∣denM x l:=by
 unfold denM;exact Nat.dvd_trans (denQ_dvd h) (Nat.dvd_trans (Nat.dvd_mul_left _ _) (Nat.dvd_mul_right _ _))
theorem denB_dvd2 {l:List Rat}:denB x.brs*1000∣denM x l:=by
 unfold denM;exact ⟨denQ l,by rw [Nat.mul_right_comm]⟩
def valD (x:Net) (ms:List Mi):Nat:=denM x (ms.map fun m=>qOf m.txt)
theorem Sml.vD (h:Sml x ms):valD x ms≠0∧valD x ms≤tenP 283:=by
 have h1:=denM_small (al:=ms.map fun m=>qOf m.txt) h.ok h.h10 (fun q hq=>by obtain ⟨m,hm,rfl⟩:=List.mem_map.1 hq;exact h.tn m hm) (by rw [zG_];exact h.k8);unfold valD tenP;exact h1
theorem Sml.val (h:Sml x ms) {k:Nat} (hk:k<ms.length):Ot (valD x ms) (10^25+80000) (yF x ms k):=by
 obtain ⟨m,hm⟩:∃ m,ms[k]?=some m:=⟨_,zA_ hk⟩;have hmm:=zC_ hm;unfold yF;rw [hm];have h1:=ot_dvd (ot_tn (h.tn m hmm)) (denM_dvd (x:=x) (List.mem_map.2 ⟨m,hmm,rfl⟩:qOf m.txt∈ms.map fun m=>qOf m.txt));have h2:=ot_dvd (ot_neg (formR_ot h.ok h.h10 (h.mi m hmm)).fr) (denB_dvd2 (x:=x) (l:=ms.map fun m=>qOf m.txt));have h3:=ot_add h1 h2;show Ot _ _ (qOf m.txt-(formR x m).2);rw [Rat.sub_eq_add_neg];exact h3
theorem Sml.short (h:Sml x ms) (hr:EReg x ms) {y a:Fn} (ha:(lsY x ms y).Sol a) {V:Rat} {B:Nat} (hB:1≤B) {Y:Nat→Int} (hY:∀ k,k<ms.length→y k*V=(Y k:Rat)) (hYB:∀ k,k<ms.length→(Y k).natAbs≤B) :
    ∃ t:Int,t≠0∧t.natAbs≤tenP 396∧(∀ i,i<(freeL x).length→∃ z:Int,z.natAbs≤B*tenP 396∧V*a i*(t:Rat)=(z:Rat))∧∀ k,k<ms.length→∃ z:Int,z.natAbs≤B*tenP 396∧V*(lsY x ms y).res a k*(t:Rat)=(z:Rat):=
 (aug_ok h.ok h.mi h.wt y).short (freeL_len h.ok h.h8) h.h10 h.k8 ((ereg_iff fun m hm=>(h.wt m hm).1).1 hr) ha hB hY hYB
theorem Sml.own (h:Sml x ms) (hr:EReg x ms):∃ D:Int,D≠0∧D.natAbs≤tenP 679∧(∀ i,i<(freeL x).length→Zt D (tenP 706) (estD x ms i))∧∀ k,k<ms.length→Zt D (tenP 706) ((lsOf x ms).res (estD x ms) k):=by
 obtain ⟨h1,h2⟩:=h.vD;have hv:∀ k,∃ z:Int,k<ms.length→yF x ms k*((valD x ms:Int):Rat)=(z:Rat)∧z.natAbs≤tenP 310:=fun k=>by
  by_cases hk:k<ms.length
  ·obtain ⟨z,h3,h4⟩:=h.val hk
   refine ⟨z,fun _=>⟨h3,zI_ h4 ?_⟩⟩;have h5:10^25+80000≤tenP 26:=by decide
   exact zI_ (Nat.mul_le_mul h5 h2) (tnAdd (by decide))
  ·exact ⟨0,fun e=>absurd e hk⟩
 have hB:1≤tenP 310:=tnPos _;obtain ⟨t,h3,h4,h5,h6⟩:=h.short hr (y:=yF x ms) (a:=estD x ms) (est_sol hr) (V:=((valD x ms:Int):Rat)) (B:=tenP 310) hB (Y:=fun k=>(hv k).choose) (fun k hk=>((hv k).choose_spec hk).1) (fun k hk=>((hv k).choose_spec hk).2);have h7:tenP 310*tenP 396≤tenP 706:=tnAdd (by decide);refine ⟨(valD x ms:Int)*t,?_,?_,fun i hi=>?_,fun k hk=>?_⟩
 ·intro e
  rcases Int.mul_eq_zero.1 e with e | e
  ·omega
  ·exact h3 e
 ·rw [Int.natAbs_mul,Int.natAbs_natCast]
  exact zI_ (Nat.mul_le_mul h2 h4) (tnAdd (by decide))
 ·obtain ⟨z,e1,e2⟩:=h5 i hi
  exact ⟨z,by rw [Rat.intCast_mul,←e2];grind,zI_ e1 h7⟩
 ·obtain ⟨z,e1,e2⟩:=h6 k hk
  refine ⟨z,?_,zI_ e1 h7⟩;have e3:(lsY x ms (yF x ms)).res (estD x ms) k=(lsOf x ms).res (estD x ms) k:=rfl;rw [e3] at e2;rw [Rat.intCast_mul,←e2];grind
end
end
end Go.Proofs.YthgdchffeigkbaaGreatDoor
