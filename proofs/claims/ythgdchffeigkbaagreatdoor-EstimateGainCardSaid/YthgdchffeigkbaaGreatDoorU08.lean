import Derived.Test.YthgdchffeigkbaaGreatDoorU06
import Derived.Test.YthgdchffeigkbaaGreatDoorU07
import Derived.Lib.ParseIntB
set_option linter.unusedVariables false
set_option linter.unusedSimpArgs false
namespace Go.Proofs.YthgdchffeigkbaaGreatDoor
section
def pv:List Nat→Nat
 | []=>0
 | x::r=>x+1000000000*pv r
def PsOk (ps:List Nat):Prop:=∀ x∈ps,x<1000000000
theorem pv_snoc:∀ (ps:List Nat) (r:Nat),pv (ps++[r])=pv ps+r*1000000000^ps.length
 | [],r=>by simp [pv]
 | x::t,r=>by
  rw [List.cons_append,pv,pv_snoc t r,pv,zV_,Nat.pow_succ];grind
theorem psOk_snoc {ps:List Nat} {r:Nat} (h:PsOk ps) (hr:r<1000000000):PsOk (ps++[r]):=fun x hx=>(List.mem_append.1 hx).elim (h x) fun h=>by rw [List.mem_singleton.1 h];exact hr
theorem pv_drop {ps:List Nat} {k x:Nat} (h:ps[k]?=some x):pv (ps.drop k)=x+1000000000*pv (ps.drop (k+1)):=by
 obtain ⟨hl,he⟩:=zB_.1 h;rw [List.drop_eq_getElem_cons hl,he,pv]
def PsTop (ps:List Nat):Prop:=∀ x,ps.getLast?=some x→0<x
theorem pv_pos:∀ {ps:List Nat},PsTop ps→ps≠[]→0<pv ps
 | [x],h,_=>by
  have:=h x rfl;simp only [pv];omega
 | x::y::r,h,_=>by
  have:=pv_pos (ps:=y::r) (fun z hz=>h z (by rw [List.getLast?_cons_cons];exact hz)) (by simp);rw [pv];omega
theorem psTop_drop {ps:List Nat} (h:PsTop ps) {k:Nat} (hk:k<ps.length):0<pv (ps.drop k):=by
 refine pv_pos (fun x hx=>h x ?_) (fun e=>by have:=congrArg List.length e;rw [zS_] at this;simp at this;omega);rw [List.getLast?_drop,if_neg (by omega)] at hx;exact hx
def Dg (ps:List Nat) (k:Nat):List UInt8:=if k<ps.length then Lib.decDigits (pv (ps.drop k)) else []
theorem dg_end (ps:List Nat):Dg ps ps.length=[]:=by unfold Dg;rw [if_neg (Nat.lt_irrefl _)]
theorem dg_top {ps:List Nat} {k x:Nat} (h:ps[k]?=some x) (hk:k+1=ps.length):Dg ps k=Lib.decDigits x:=by
 unfold Dg;rw [if_pos (by omega),pv_drop h,List.drop_eq_nil_of_le (by omega),pv,Nat.mul_zero,Nat.add_zero]
theorem dg_low {ps:List Nat} {k x:Nat} (h:ps[k]?=some x) (hk:k+1<ps.length) (hok:PsOk ps) (ht:PsTop ps):Dg ps k=Dg ps (k+1)++List.replicate (9-(Lib.decDigits x).length) 48++Lib.decDigits x:=by
 unfold Dg;have hx:=hok x (zC_ h);have hp:=psTop_drop ht hk;rw [if_pos (by omega),if_pos hk,pv_drop h,Nat.add_comm x,Nat.mul_comm,show 1000000000=10^9 from rfl,dec_split 9 _ x hp hx,fixd_pad 9 x (by decide) hx,List.append_assoc]
theorem dg_all {ps:List Nat} (h:ps≠[]):Dg ps 0=Lib.decDigits (pv ps):=by
 unfold Dg;rw [if_pos (List.length_pos_iff.2 h),List.drop_zero]
theorem dg_len {ps:List Nat} {k x:Nat} (h:ps[k]?=some x) (hok:PsOk ps):1≤(Lib.decDigits x).length∧(Lib.decDigits x).length≤9:=
 ⟨dec_len_pos x,dec_len9 (by decide) (hok x (zC_ h))⟩
theorem pow_mono10 {a b:Nat} (h:a≤b):10^a≤10^b:=Nat.pow_le_pow_right (by decide) h
theorem bb_lo:10^2000≤BB 210:=by unfold BB;decide+kernel
theorem bb_hi:BB 210≤1000000000^225:=by unfold BB;decide+kernel
theorem many_words {n:Nat} (h:210<dlen n):2000<ndg n:=by
 have h0:n≠0:=fun e=>by rw [e,dlen_zero] at h;omega
 have h1:=le_dlen h0;have h2:BB 210≤n:=zI_ (BB_le (by omega)) h1;refine Nat.lt_of_not_le fun hle=>?_;have h3:=lt_ndg n;have h4:=pow_mono10 hle;have h5:=bb_lo;omega
theorem few_parts {v g L:Nat} (hv:dlen v≤210) (hg:0<g) (h:g*1000000000^L≤v):L<225:=by
 have h1:=lt_dlen v;have h2:v<1000000000^225:=zJ_ h1 (zI_ (BB_le hv) bb_hi);have h3:1*1000000000^L≤g*1000000000^L:=Nat.mul_le_mul_right _ hg;exact (Nat.pow_lt_pow_iff_right (a:=1000000000) (by decide)).1 (by omega)
def textL (z:Int):List UInt8:=(if z<0 then [45] else [])++Lib.decDigits z.natAbs
def AllDg (l:List UInt8):Prop:=∀ c∈l,IsDg c
theorem AllDg.take {l:List UInt8} (h:AllDg l) (n:Nat):AllDg (l.take n):=fun c hc=>h c (List.mem_of_mem_take hc)
theorem AllDg.drop {l:List UInt8} (h:AllDg l) (n:Nat):AllDg (l.drop n):=fun c hc=>h c (List.mem_of_mem_drop hc)
theorem puM:∀ (l:List UInt8) (mx acc:Nat),AllDg l→mx≤4294967295→dvg acc l≤mx→Lib.parseUintM mx acc l=.ok (dvg acc l)
 | [],mx,acc,_,_,_=>rfl
 | c::r,mx,acc,h,h4,hm=>by
  have hc:=h c (List.mem_cons_self ..);have hr:AllDg r:=fun x hx=>h x (List.mem_cons_of_mem _ hx);have e:dvg acc (c::r)=dvg (acc*10+(c.toNat-48)) r:=rfl;rw [e] at hm ⊢;have hle:acc*10+(c.toNat-48)≤dvg (acc*10+(c.toNat-48)) r:=by
   rw [dvg_acc];have:1≤10^r.length:=Nat.one_le_pow _ _ (by decide);have:=Nat.mul_le_mul_left (acc*10+(c.toNat-48)) this;omega
  have ih:=puM r mx _ hr h4 hm;unfold Lib.parseUintM;rw [if_pos (show 48≤c.toNat∧c.toNat≤57 from hc),if_neg (by omega),if_neg (by omega)];exact ih
theorem pu32 {l:List UInt8} (h:AllDg l) (h0:l≠[]) (h9:l.length≤9):Lib.parseUintB 32 l=.ok (dv l):=by
 unfold Lib.parseUintB;rw [if_neg h0];refine puM l _ 0 h (by decide) ?_;have h1:=dv_lt h;have h2:10^l.length≤10^9:=Nat.pow_le_pow_right (by decide) h9;show dv l≤_;omega
theorem dv_part (l m:List UInt8) (h:l=[]∨m.length=9):dv (l++m)=dv l*1000000000+dv m:=by
 rw [dv_append];rcases h with rfl | h
 ·simp [dv,dvg]
 ·rw [h]
theorem dv_dlen {l:List UInt8} (h:AllDg l):dlen (dv l)≤l.length:=by
 refine dlen_le (zJ_ (dv_lt h) ?_);exact Nat.pow_le_pow_left (by decide) _
end
end Go.Proofs.YthgdchffeigkbaaGreatDoor
