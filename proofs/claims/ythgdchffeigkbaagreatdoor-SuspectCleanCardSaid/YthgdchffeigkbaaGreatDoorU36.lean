import Derived.Test.YthgdchffeigkbaaGreatDoorU31
set_option linter.unusedVariables false
set_option linter.unusedSimpArgs false
namespace Go.Proofs.YthgdchffeigkbaaGreatDoor
section
open Go.ChangeShapes Go.WideShapes Go.ChangeAt Go.RowKit
def denB (l:List Br):Nat:=l.foldr (fun b d=>(b.x*b.tap).toNat*d) 1
theorem denB_dvd:∀ {l:List Br} {b:Br},b∈l→(b.x*b.tap).toNat∣denB l
 | a::r,b,h=>by
  rcases List.mem_cons.1 h with h | h
  ·subst h;exact Nat.dvd_mul_right _ _
  ·exact Nat.dvd_trans (denB_dvd h) (Nat.dvd_mul_left _ _)
theorem br_den {b:Br} (h:b.bad=false):500≤(b.x*b.tap).toNat∧(b.x*b.tap).toNat<10^8∧b.x*b.tap=((b.x*b.tap).toNat:Int):=by
 have h1:=br_bnd h;have hk1:b.x*b.tap≤10000*1500:=Int.mul_le_mul h1.2.1 h1.2.2.2.1 (by omega) (by omega);have hk2:1*500≤b.x*b.tap:=Int.mul_le_mul h1.1 h1.2.2.1 (by omega) (by omega);omega
theorem denB_lt:∀ {l:List Br},(∀ b∈l,b.bad=false)→denB l≠0∧denB l≤(10^8)^l.length
 | [],_=>by simp [denB]
 | a::r,h=>by
  obtain ⟨h1,h2⟩:=denB_lt fun b hb=>h b (List.mem_cons_of_mem _ hb);have h3:=br_den (h a List.mem_cons_self);have e:denB (a::r)=(a.x*a.tap).toNat*denB r:=rfl;rw [e,zV_,Nat.pow_succ,Nat.mul_comm ((10^8)^r.length)];exact ⟨Nat.mul_ne_zero (by omega) h1,Nat.mul_le_mul (by omega) h2⟩
theorem ot_sus {l:List Br} {b:Br} (hb:b∈l) (h:b.bad=false):Ot (denB l) 2000 (susR b):=by
 obtain ⟨h1,h2,h3⟩:=br_den h;unfold susR;rw [h3];exact ot_dvd (ot_div (by omega) (by show (1000000:Int).natAbs≤_;simp;omega)) (denB_dvd hb)
theorem ot_con {l:List Br} {b:Br} (hb:b∈l) (h:b.bad=false):Ot (denB l*1000) 2000 (conR b):=by
 have h1:=br_bnd h;unfold conR;exact ot_mul (C:=1) (ot_sus hb h) (ot_div (d:=1000) (by decide) (by rw [Int.natAbs_neg];omega))
structure FOt (n D B:Nat) (s:List Rat×Rat):Prop where
 len:s.1.length=n
 cf:∀ p∈s.1,Ot D B p
 fr:Ot (D*1000) B s.2
theorem FOt.mono {n D B C:Nat} {s:List Rat×Rat} (h:FOt n D B s) (hb:B≤C):FOt n D C s:=⟨h.len,fun p hp=>ot_more (h.cf p hp) hb,ot_more h.fr hb⟩
theorem zrs_ot (n D:Nat):FOt n D 0 (zrs n,0):=by
 refine ⟨by simp [zrs],fun p hp=>?_,ot_zero _⟩;rw [List.eq_of_mem_replicate hp];exact ot_zero _
theorem ot_sg {D B:Nat} {q:Rat} (mi:Bool) (h:Ot D B q):Ot D B (sg mi q):=by
 unfold sg;cases mi
 ·exact h
 ·exact ot_neg h
theorem FOt.add {n D B u v:Nat} {s:List Rat×Rat} {b c:Rat} (mi:Bool) (h:FOt n D B s) (hu:u<n) (hv:v<n) (hb:Ot D 2000 b) (hc:Ot (D*1000) 2000 c):FOt n D (B+4000) (addF (sg mi b) u v s.1,s.2+sg mi c):=by
 have hb':=ot_sg mi hb;have h1:Ot D (B+2000) (vf s.1 u+sg mi b):=ot_add (h.cf _ (zC_ (vf_get (i:=u) (by rw [h.len];exact hu)))) hb';have h2:∀ p∈s.1.set u (vf s.1 u+sg mi b),Ot D (B+2000) p:=fun p hp=>by
  rcases List.mem_or_eq_of_mem_set hp with e | e
  ·exact ot_more (h.cf p e) (by omega)
  ·rw [e];exact h1
 refine ⟨by rw [addF_len];exact h.len,fun p hp=>?_,ot_more (ot_add h.fr (ot_sg mi hc)) (by omega)⟩;unfold addF at hp;rcases List.mem_or_eq_of_mem_set hp with e | e
 ·exact ot_more (h2 p e) (by omega)
 ·rw [e,Rat.sub_eq_add_neg]
  exact ot_more (ot_add (h2 _ (zC_ (vf_get (i:=v) (by rw [zU_,h.len];exact hv)))) (ot_neg hb')) (by omega)
theorem addx_ot {x:Net} (ok:NetOk x) {n B:Nat} {s:List Rat×Rat} (hs:FOt n (denB x.brs) B s) (hn:n=busN x) {b:Br} (hb:b∈x.brs) (mi:Bool):FOt n (denB x.brs) (B+4000) (addF (sg mi (susR b)) (busAt x b.fr) (busAt x b.to) s.1,s.2+sg mi (conR b)):=by
 have hm:=ok.br b hb;exact hs.add mi (by rw [hn];exact (busAt_ok ok hm.1).2.1) (by rw [hn];exact (busAt_ok ok hm.2.1).2.1) (ot_sus hb hm.2.2.2) (ot_con hb hm.2.2.2)
theorem injStep_ot {x:Net} (ok:NetOk x) {n B bus:Nat} {s:List Rat×Rat} (hs:FOt n (denB x.brs) B s) (hn:n=busN x) {b:Br} (hb:b∈x.brs):FOt n (denB x.brs) (B+8000) (injStep bus (busAt x b.fr) (busAt x b.to) (susR b) (conR b) s):=by
 unfold injStep;dsimp only;have h1:FOt n (denB x.brs) (B+4000) (if busAt x b.fr=bus then (addF (sg false (susR b)) (busAt x b.fr) (busAt x b.to) s.1,s.2+sg false (conR b)) else s):=by
  split
  ·exact addx_ot ok hs hn hb false
  ·exact hs.mono (by omega)
 split
 ·exact addx_ot ok h1 hn hb true
 ·exact h1.mono (by omega)
theorem injGo_ot {x:Net} (ok:NetOk x) {n bus:Nat} (hn:n=busN x):∀ (bs:List Br) (B:Nat) (s:List Rat×Rat),(∀ b∈bs,b∈x.brs)→FOt n (denB x.brs) B s→FOt n (denB x.brs) (B+8000*bs.length) (injGo bus (bs.map susR) (bs.map conR) (bs.map fun b=>busAt x b.fr) (bs.map fun b=>busAt x b.to) s)
 | [],B,s,_,hs=>hs
 | b::bs,B,s,h,hs=>by
  have h1:=injGo_ot ok (bus:=bus) hn bs (B+8000) _ (fun a ha=>h a (List.mem_cons_of_mem _ ha)) (injStep_ot ok (bus:=bus) hs hn (h b List.mem_cons_self));refine FOt.mono (B:=B+8000+8000*bs.length) h1 ?_;rw [zV_];omega
theorem inj_maps (x:Net):mFrom x=(x.brs.map fun b=>busAt x b.fr)∧mTo x=x.brs.map fun b=>busAt x b.to:=by
 refine ⟨?_,?_⟩
 ·unfold mFrom brE;rw [List.map_map];rfl
 ·unfold mTo brE;rw [List.map_map];rfl
theorem formR_ot {x:Net} (ok:NetOk x) (hl:x.brs.length≤10) {m:Mi} (hm:MiOk x m):FOt (busN x) (denB x.brs) 80000 (formR x m):=by
 have hz:=zrs_ot (busN x) (denB x.brs);unfold formR
 split
 ·rename_i h0
  have h1:=hm.1 h0;rcases brIdx_spec x m.name with ⟨e,_⟩ | ⟨i,b,e,hb,_⟩
  ·omega
  ·obtain ⟨a1,a2,a3,a4⟩:=mFrom_at hb
   have h2:=addx_ot ok hz rfl (zC_ hb) false;simp only [e,zL_,zD_,vf,a1,a2,a3,a4];exact h2.mono (by omega)
 ·split
  ·rename_i h0 h2
   refine ⟨by rw [zU_];exact hz.len,fun p hp=>?_,ot_more hz.fr (by omega)⟩;rcases List.mem_or_eq_of_mem_set hp with e | e
   ·exact ot_more (hz.cf p e) (by omega)
   ·rw [e];exact ot_more ot_one (by omega)
  ·have h:=injGo_ot ok (bus:=busAt x m.name) rfl x.brs 0 _ (fun b hb=>hb) hz
   rw [(inj_maps x).1,(inj_maps x).2];exact h.mono (by omega)
theorem den_small {x:Net} (ok:NetOk x) (hl:x.brs.length≤10):denB x.brs≠0∧denB x.brs≤10^80:=by
 obtain ⟨h1,h2⟩:=denB_lt (l:=x.brs) fun b hb=>(ok.br b hb).2.2.2;refine ⟨h1,zI_ h2 ?_⟩;rw [←Nat.pow_mul];exact Nat.pow_le_pow_right (by decide) (by omega)
theorem ten_le {a b:Nat} (h:a≤b):10^a≤10^b:=Nat.pow_le_pow_right (by decide) h
theorem ten_add {a b c:Nat} (h:a+b≤c):10^a*10^b≤10^c:=by rw [←Nat.pow_add];exact ten_le h
def denQ (l:List Rat):Nat:=l.foldr (fun q d=>q.den*d) 1
theorem denQ_dvd:∀ {l:List Rat} {q:Rat},q∈l→q.den∣denQ l
 | a::r,b,h=>by
  rcases List.mem_cons.1 h with h | h
  ·subst h;exact Nat.dvd_mul_right _ _
  ·exact Nat.dvd_trans (denQ_dvd h) (Nat.dvd_mul_left _ _)
theorem denQ_lt {k:Nat}:∀ {l:List Rat},(∀ q∈l,Tn k q)→denQ l≠0∧denQ l≤(10^k)^l.length
 | [],_=>by simp [denQ]
 | a::r,h=>by
  obtain ⟨h1,h2⟩:=denQ_lt fun b hb=>h b (List.mem_cons_of_mem _ hb);have e:denQ (a::r)=a.den*denQ r:=rfl;rw [e,zV_,Nat.pow_succ,Nat.mul_comm ((10^k)^r.length)];exact ⟨Nat.mul_ne_zero a.den_nz h1,Nat.mul_le_mul (zQ_ (h a List.mem_cons_self).2) h2⟩
def denM (x:Net) (al:List Rat):Nat:=denB x.brs*denQ al*1000
theorem denM_small {x:Net} (ok:NetOk x) (hl:x.brs.length≤10) {al:List Rat} (ha:∀ q∈al,Tn 25 q) (hn:al.length≤8):denM x al≠0∧denM x al≤10^283:=by
 obtain ⟨h1,h2⟩:=den_small ok hl;obtain ⟨h3,h4⟩:=denQ_lt ha;have h5:denQ al≤10^200:=by
  refine zI_ h4 ?_;rw [←Nat.pow_mul];exact ten_le (by omega)
 unfold denM;refine ⟨Nat.mul_ne_zero (Nat.mul_ne_zero h1 h3) (by decide),?_⟩;have h6:=ten_add (a:=80) (b:=200) (c:=280) (by decide);have h7:=ten_add (a:=280) (b:=3) (c:=283) (by decide);have h8:=Nat.mul_le_mul_right (10^3) (zI_ (Nat.mul_le_mul h2 h5) h6);exact zI_ h8 h7
end
end Go.Proofs.YthgdchffeigkbaaGreatDoor
