import Derived.Test.YthgdchffeigkbaaGreatDoorU23
set_option linter.unusedVariables false
set_option linter.unusedSimpArgs false
namespace Go.Proofs.YthgdchffeigkbaaGreatDoor
section
def Tn (k:Nat) (q:Rat):Prop:=q.num.natAbs<10^k∧q.den<10^k
theorem Tn.mono {k m:Nat} {q:Rat} (h:Tn k q) (hm:k≤m):Tn m q:=
 ⟨zJ_ h.1 (Nat.pow_le_pow_right (by decide) hm),zJ_ h.2 (Nat.pow_le_pow_right (by decide) hm)⟩
theorem Tn.fits {k:Nat} {q:Rat} (h:Tn k q) (hk:k≤2000):Fits q:=by
 have h2:=h.mono hk;exact ⟨ndg_le (by decide) h2.1,ndg_le (by decide) h2.2⟩
theorem tn_divInt {k:Nat} {n:Int} {d:Nat} (hd:d≠0) (h1:n.natAbs<10^k) (h2:d<10^k):Tn k (Rat.divInt n d):=by
 have h3:=(ratio_abs n hd).1;have h4:=(ratio_num n hd).2;unfold Tn;rw [h3,h4];exact ⟨zT_ (Nat.div_le_self ..) h1,zT_ (Nat.div_le_self ..) h2⟩
theorem tn_valid {s:ByteArray} (h:ratCk s.data.toList=0):Tn (s.size+1) (qOf s):=by
 obtain ⟨h1,h2,-,-,h5,h6,-,-⟩:=valid_parse h;have hs:s.data.toList.length=s.size:=by rw [Array.length_toList];rfl
 have hl:=congrArg List.length (rtS_split s.data.toList);have hl2:=congrArg List.length (pre_split s.data.toList);rw [zE_] at hl hl2;have k1:(rtN s.data.toList).length≤s.size:=by omega
 refine ⟨?_,?_⟩
 ·show (parseQ s.data.toList).num.natAbs<_
  rw [h1,rdZ_abs];exact zJ_ (dv_lt h5) (Nat.pow_le_pow_right (by decide) (by omega))
 ·show (parseQ s.data.toList).den<_
  rw [h2];unfold denL
  split
  ·rename_i hi
   rw [if_pos hi,zV_] at hl;exact zJ_ (dv_lt h6) (Nat.pow_le_pow_right (by decide) (by omega))
  ·rw [Nat.pow_succ]
   have:0<10^s.size:=Nat.pow_pos (by decide);omega
theorem tn_tiny {s:ByteArray} (h:ratCk s.data.toList=0) (hs:s.size≤24):Tn 25 (qOf s):=(tn_valid h).mono (by omega)
def Ot (D B:Nat) (q:Rat):Prop:=∃ z:Int,q*((D:Int):Rat)=(z:Rat)∧z.natAbs≤B*D
theorem ot_add {D B C:Nat} {p q:Rat} (hp:Ot D B p) (hq:Ot D C q):Ot D (B+C) (p+q):=by
 obtain ⟨a,h1,h2⟩:=hp;obtain ⟨b,h3,h4⟩:=hq;refine ⟨a+b,by rw [Rat.add_mul,h1,h3,Rat.intCast_add],?_⟩;have:=Int.natAbs_add_le a b;rw [Nat.add_mul];omega
theorem ot_neg {D B:Nat} {q:Rat} (hq:Ot D B q):Ot D B (-q):=by
 obtain ⟨a,h1,h2⟩:=hq;exact ⟨-a,by rw [Rat.neg_mul,h1,Rat.intCast_neg],by rw [Int.natAbs_neg];exact h2⟩
theorem ot_mul {D E B C:Nat} {p q:Rat} (hp:Ot D B p) (hq:Ot E C q):Ot (D*E) (B*C) (p*q):=by
 obtain ⟨a,h1,h2⟩:=hp;obtain ⟨b,h3,h4⟩:=hq;refine ⟨a*b,?_,?_⟩
 ·rw [Rat.intCast_mul,←h1,←h3,Int.natCast_mul,Rat.intCast_mul];grind
 ·rw [Int.natAbs_mul]
  have:=Nat.mul_le_mul h2 h4;have e:B*D*(C*E)=B*C*(D*E):=by grind
  omega
theorem ot_zero (D:Nat):Ot D 0 0:=⟨0,by rw [Rat.zero_mul];rfl,by simp⟩
theorem ot_one {D:Nat}:Ot D 1 1:=⟨(D:Int),by rw [Rat.one_mul],by simp⟩
theorem ot_more {D B C:Nat} {q:Rat} (h:Ot D B q) (hb:B≤C):Ot D C q:=by
 obtain ⟨a,h1,h2⟩:=h;exact ⟨a,h1,zI_ h2 (Nat.mul_le_mul hb lR)⟩
theorem ot_dvd {D E B:Nat} {q:Rat} (h:Ot D B q) (hd:D∣E):Ot E B q:=by
 obtain ⟨a,h1,h2⟩:=h;obtain ⟨k,rfl⟩:=hd;refine ⟨a*k,?_,?_⟩
 ·rw [Rat.intCast_mul,←h1,Int.natCast_mul,Rat.intCast_mul,Rat.mul_assoc]
 ·rw [Int.natAbs_mul,Int.natAbs_natCast,←Nat.mul_assoc]
  exact Nat.mul_le_mul h2 lR
theorem ot_div {n:Int} {d B:Nat} (hd:d≠0) (h:n.natAbs≤B*d):Ot d B (Rat.divInt n d):=by
 refine ⟨n,?_,h⟩;rw [Rat.divInt_eq_div,Rat.div_mul_cancel];intro e;have:((d:Int):Rat)=((0:Int):Rat):=e;rw [Rat.intCast_inj] at this;omega
theorem ot_tn {k:Nat} {q:Rat} (h:Tn k q):Ot q.den (10^k) q:=by
 have h1:=ot_div (n:=q.num) (d:=q.den) (B:=10^k) q.den_nz (zI_ (zQ_ h.1) (Nat.le_mul_of_pos_right _ (Nat.pos_of_ne_zero q.den_nz)));rwa [Rat.num_divInt_den] at h1
end
end Go.Proofs.YthgdchffeigkbaaGreatDoor
