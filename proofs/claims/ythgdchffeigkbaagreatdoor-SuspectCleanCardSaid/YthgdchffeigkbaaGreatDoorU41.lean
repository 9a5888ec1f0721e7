import Derived.Test.YthgdchffeigkbaaGreatDoorU39
import Derived.Test.YthgdchffeigkbaaGreatDoorU40
set_option linter.unusedVariables false
set_option linter.unusedSimpArgs false
namespace Go.Proofs.YthgdchffeigkbaaGreatDoor
set_option maxRecDepth 100000
section
open Go.ChangeShapes Go.WideShapes Go.ChangeAt Go.RowKit
attribute [local go_sem ↓] execOp_call_val
attribute [local go_sem] callVal_func setCell_drewN alloc_drewN sEq_walk
def FormQ (n:Nat) (p:List Rat×Rat):Value→World→Prop:=fun v w=>∃ (gc:Nat) (u:Rv),v=.agg #[.slice (some ⟨gc,0,none⟩) n n,.bool u.b1,.slice u.A u.n u.c,.bool u.b2,.slice u.A2 u.m u.d]∧RdQ w w.heap.size (some ⟨gc,0,none⟩) n p.1∧RtV w w.heap.size p.2 u
theorem FormQ.up {n:Nat} {p:List Rat×Rat} {v:Value} {w w':World} (h:FormQ n p v w) (hb:Below w.heap.size w w'):FormQ n p v w':=by
 obtain ⟨gc,u,e,h1,h2⟩:=h;exact ⟨gc,u,e,(h1.below hb lR).more hb.size,h2.up hb⟩
end
section
theorem es_txt:txtQ 0=⟨#[48]⟩∧txtQ (-5)=⟨#[45,53]⟩∧txtQ (-6)=⟨#[45,54]⟩∧txtQ 5=⟨#[53]⟩∧txtQ 2=⟨#[50]⟩∧txtQ 1=⟨#[49]⟩:=by decide+kernel
theorem fits_s {q:Rat} (h:q.num.natAbs<10^5∧q.den<10^5):Fits q:=Tn.fits (k:=5) h (by decide)
theorem sml_of {x:Net} {ms:List Mi} (h8:x.nodes.length≤8) (h10:x.brs.length≤10) (k8:ms.length≤8) (hz:∀ m∈ms,m.txt.size≤24) (hc:mtCk x ms=0):Sml x ms:=by
 obtain ⟨h1,-,h2⟩:=mtCk_ok hc;obtain ⟨h3,h4⟩:=mtCk_val hc;exact ⟨h1,h8,h10,k8,h2,fun m hm=>tn_tiny (h3 m hm) (hz m hm),h4⟩
theorem small_allv {x:Net} {ms:List Mi} {v:List Vc} (h:smallR x ms v=true):x.nodes.length≤8∧x.brs.length≤10∧(∀ m∈ms,m.txt.size≤24):=by
 unfold smallR at h;simp only [Bool.and_eq_true,decide_eq_true_eq,List.all_eq_true] at h;exact ⟨h.1.1.1,h.1.1.2,h.1.2⟩
section
variable {x:Net} {ms:List Mi}
theorem vf_q3 {l:List Rat} {b:Nat} (h:∀ q∈l,qsz q≤b) (hb:2≤b) (i:Nat):qsz (vf l i)≤b:=by
 by_cases hi:i<l.length
 ·exact h _ (zC_ (vf_get hi))
 ·have e:vf l i=0:=by
   unfold vf;rw [zD_,List.getElem?_eq_none (by omega)];rfl
  rw [e];exact zI_ (qsz_whole 0 (by decide) (by decide)) hb
theorem wt_qsz (hwt:∀ m∈ms,1≤m.wt∧m.wt≤1000) (t:Nat):qsz (wtF ms t)≤2:=by
 by_cases ht:t<ms.length
 ·obtain ⟨m,hm⟩:∃ m,ms[t]?=some m:=⟨_,zA_ ht⟩
  rw [wtF_at hm];have:=hwt m (zC_ hm);exact qsz_whole _ (by omega) (by omega)
 ·have e:wtF ms t=wtF [] 0:=by
   unfold wtF;rw [List.getElem?_eq_none (by omega)];rfl
  rw [e];exact qsz_whole 0 (by decide) (by decide)
theorem row_q3 {M:List (List Rat)} (hq:∀ a∈M,∀ q∈a,qsz q≤300) (t i:Nat):qsz (vf (M.getD t []) i)≤300:=by
 refine vf_q3 ?_ (by decide) i;rw [zD_];cases h:M[t]? with
 | none=>intro q hq;cases hq
 | some a=>exact hq a (zC_ h)
theorem gs_qsz {M:List (List Rat)} (hq:∀ a∈M,∀ q∈a,qsz q≤300) (hwt:∀ m∈ms,1≤m.wt∧m.wt≤1000) (a b:Nat):∀ k,qsz (gSum M ms k a b)≤606*k+2
 | 0=>qsz_whole 0 (by decide) (by decide)
 | k+1=>by
  have ih:=gs_qsz hq hwt a b k;unfold gSum at ih ⊢;simp only [sumTo];have h1:=add_qsz (sumTo k fun t=>wtF ms t*vf (M.getD t []) a*vf (M.getD t []) b) (wtF ms k*vf (M.getD k []) a*vf (M.getD k []) b);have h2:=mul_qsz (wtF ms k*vf (M.getD k []) a) (vf (M.getD k []) b);have h3:=mul_qsz (wtF ms k) (vf (M.getD k []) a);have h4:=wt_qsz hwt k;have h5:=row_q3 hq k a;have h6:=row_q3 hq k b;omega
theorem inv_sz (ok:NetOk x) (h8:x.nodes.length≤8) (hm:∀ m∈ms,MiOk x m) (hwt:∀ m∈ms,1≤m.wt∧m.wt≤1000) (hl:ms.length≤64):∀ a∈invL (gainR (freeL x).length (rowsR x ms) ms),∀ q∈a,qsz q≤2600000000:=fun a ha q hq=>by
 have hr:=(rowsR_ok ok hm).2;have hB:Bd (3+606*ms.length) (gainR (freeL x).length (rowsR x ms) ms):=fun r hr' q hq'=>by
  obtain ⟨i,hi⟩:=List.mem_iff_getElem?.1 hr';have hil:i<(freeL x).length:=by
   have:=(zB_.1 hi).1;rwa [gainR_len] at this
  obtain ⟨r0,h1,h2,h3⟩:=gain_row (ms:=ms) (M:=rowsR x ms) hil;rw [h1] at hi;injection hi with hi;subst hi;obtain ⟨j,hj⟩:=List.mem_iff_getElem?.1 hq';have hjl:j<(freeL x).length:=by have:=(zB_.1 hj).1;omega
  rw [←vf_at hj,h3 j hjl];have:=gs_qsz (ms:=ms) hr hwt i j (rowsR x ms).length;rw [rows_len] at this ⊢;omega
 have h:=inv_bd gain_wid hB (by omega) a ha q hq;rw [gainR_len] at h;have h1:4^(freeL x).length≤4^8:=Nat.pow_le_pow_right (by decide) (freeL_len ok h8);have h2:=Nat.mul_le_mul h1 (show 3+606*ms.length≤38787 by omega);omega
theorem wt_q1 {z:Int} (h:1≤z∧z≤1000):qsz ((z:Int):Rat)≤1:=by
 unfold qsz;rw [Rat.num_intCast,Rat.den_intCast];have h1:dlen 1=1:=dlen_one (by decide) (by decide);rw [dlen_one (by omega) (by omega),h1];decide
def sprGo (row:List Rat) (inv:List (List Rat)) (s:Rat):Nat→Rat
 | 0=>s
 | i+1=>sprGo row inv s i-vf row i*dotR (inv.getD i []) row
def sprK (x:Net) (ms:List Mi) (k:Nat) (m:Mi) (i:Nat):Rat:=sprGo ((rowsR x ms).getD k []) (invL (gainR (freeL x).length (rowsR x ms) ms)) (Rat.divInt 1 m.wt) i
def sprR (x:Net) (ms:List Mi):List Rat:=ms.mapIdx fun k m=>sprK x ms k m (freeL x).length
theorem sprR_len:(sprR x ms).length=ms.length:=by unfold sprR;rw [List.length_mapIdx]
theorem sprR_get {k:Nat} {m:Mi} (h:ms[k]?=some m):(sprR x ms)[k]?=some (sprK x ms k m (freeL x).length):=by
 unfold sprR;rw [List.getElem?_mapIdx,h];rfl
theorem dotI_qsz (ok:NetOk x) (h8:x.nodes.length≤8) (hm:∀ m∈ms,MiOk x m) (hwt:∀ m∈ms,1≤m.wt∧m.wt≤1000) (hl:ms.length≤64) {i:Nat} {a row:List Rat} (ha:(invL (gainR (freeL x).length (rowsR x ms) ms))[i]?=some a) (hr:row∈rowsR x ms):a.length=(freeL x).length∧qsz (dotR a row)≤41600000010:=by
 have h1:a.length=(freeL x).length:=by
  have h:=(invL_len (M:=gainR (freeL x).length (rowsR x ms) ms) gain_wid).2 a (zC_ ha);rwa [gainR_len] at h
 have h2:=inv_sz ok h8 hm hwt hl a (zC_ ha);have h3:=(rowsR_ok ok hm).2 row hr;have h4:=dotR_qsz (ys:=row) h1 h2 (fun q hq=>zI_ (h3 q hq) (by decide)) (freeL x).length lR;rw [zH_ (by rw [List.length_zipWith];omega)] at h4;have h5:=freeL_len ok h8;refine ⟨h1,?_⟩;unfold dotR;refine zI_ h4 ?_;exact Nat.succ_le_succ (zI_ (Nat.mul_le_mul_right _ h5) (by decide))
theorem sprK_qsz (ok:NetOk x) (h8:x.nodes.length≤8) (hm:∀ m∈ms,MiOk x m) (hwt:∀ m∈ms,1≤m.wt∧m.wt≤1000) (hl:ms.length≤64) {k:Nat} {m:Mi} (hk:ms[k]?=some m):∀ i,i≤(freeL x).length→qsz (sprK x ms k m i)≤2+i*41600000400
 | 0,_=>by
  have h:=hwt m (zC_ hk);unfold sprK sprGo;rw [Rat.divInt_eq_div];have h1:=div_qsz ((1:Int):Rat) ((m.wt:Int):Rat);have h2:qsz ((1:Int):Rat)≤1:=by decide+kernel
  have h3:qsz ((m.wt:Int):Rat)≤1:=wt_q1 h;omega
 | i+1,hi=>by
  have ih:=sprK_qsz ok h8 hm hwt hl hk i (by omega);unfold sprK at ih ⊢;unfold sprGo;obtain ⟨a,ha⟩:∃ a,(invL (gainR (freeL x).length (rowsR x ms) ms))[i]?=some a:=zX_ (by rw [(invL_len gain_wid).1,gainR_len];omega);have hrl:k<(rowsR x ms).length:=by rw [rows_len];exact (zB_.1 hk).1
  have hrow:(rowsR x ms).getD k []∈rowsR x ms:=by
   rw [zD_,zA_ hrl];exact List.getElem_mem hrl
  have h1:=(dotI_qsz ok h8 hm hwt hl ha hrow).2;have e:(invL (gainR (freeL x).length (rowsR x ms) ms)).getD i []=a:=by rw [zD_,ha];rfl
  rw [e];have h2:=sub_qsz (sprGo ((rowsR x ms).getD k []) (invL (gainR (freeL x).length (rowsR x ms) ms)) (Rat.divInt 1 m.wt) i) (vf ((rowsR x ms).getD k []) i*dotR a ((rowsR x ms).getD k []));have h3:=mul_qsz (vf ((rowsR x ms).getD k []) i) (dotR a ((rowsR x ms).getD k []));have h4:=row_q3 (rowsR_ok ok hm).2 k i;omega
def solU (x:Net) (ms:List Mi) (k:Nat):Fn:=invMul (gainR (freeL x).length (rowsR x ms) ms) ((lsOf x ms).R k)
theorem solU_sol (hr:EReg x ms) (k:Nat):(lsOf x ms).SolK k (solU x ms k):=fun i hi=>by
 obtain ⟨r,hr',hl,hv⟩:=gain_row (M:=rowsR x ms) (ms:=ms) (n:=(freeL x).length) hi;have h1:=inv_mul gain_wid hr ((lsOf x ms).R k) hr';rw [gainR_len] at h1;rw [←gain_dot hr'];exact h1
theorem sprGo_sum (row:List Rat) (inv:List (List Rat)) (s:Rat):∀ i,sprGo row inv s i=s-sumTo i fun t=>vf row t*dotR (inv.getD t []) row
 | 0=>by simp only [sprGo,sumTo];grind
 | i+1=>by
  unfold sprGo;rw [sprGo_sum row inv s i];simp only [sumTo];grind
theorem spr_eq (ok:NetOk x) (hm:∀ m∈ms,MiOk x m) {k:Nat} {m:Mi} (hk:ms[k]?=some m):sprK x ms k m (freeL x).length=(lsOf x ms).spr k (solU x ms k):=by
 unfold sprK Ls.spr;rw [sprGo_sum,Rat.divInt_eq_div,ls_w hk];have hrl:k<(rowsR x ms).length:=by rw [rows_len];exact (zB_.1 hk).1
 have hrow:((rowsR x ms).getD k []).length=(freeL x).length:=by
  rw [zD_,zA_ hrl];exact (rowsR_ok ok hm).1 _ (List.getElem_mem hrl)
 congr 1
 refine sumTo_congr fun i hi=>?_;show _=vf ((rowsR x ms).getD k []) i*solU x ms k i;congr 1
 unfold solU invMul;rw [gainR_len];exact dotR_sum (inv_row hi) hrow
theorem sprR_at (ok:NetOk x) (hm:∀ m∈ms,MiOk x m) {k:Nat} (hk:k<ms.length):(sprR x ms)[k]?=some ((lsOf x ms).spr k (solU x ms k)):=by
 obtain ⟨m,hmm⟩:∃ m,ms[k]?=some m:=⟨_,zA_ hk⟩;rw [sprR_get hmm,spr_eq ok hm hmm]
end
structure MOk (x:Net) (ms:List Mi):Prop where
 ok:NetOk x
 h8:x.nodes.length≤8
 k64:ms.length≤64
 mi:∀ m∈ms,MiOk x m
 tx:∀ m∈ms,ratCk m.txt.data.toList=0
 wt:∀ m∈ms,1≤m.wt∧m.wt≤1000
theorem mok_of {x:Net} {ms:List Mi} (h8:x.nodes.length≤8) (hc:mtCk x ms=0):MOk x ms:=by
 obtain ⟨h1,h2,h3⟩:=mtCk_ok hc;obtain ⟨h4,h5⟩:=mtCk_val hc;exact ⟨h1,h8,h2,h3,h4,h5⟩
theorem MOk.sub {x:Net} {ms l:List Mi} (h:MOk x ms) (hs:l.Sublist ms):MOk x l:=⟨h.ok,h.h8,zI_ hs.length_le h.k64,fun m hm=>h.mi m (hs.subset hm),fun m hm=>h.tx m (hs.subset hm),fun m hm=>h.wt m (hs.subset hm)⟩
section
variable {x:Net} {ms:List Mi}
theorem MOk.mdv (h:MOk x ms) {m:Mi} (hm:m∈ms):qsz (mdvR x m)≤2600:=by
 have h0:=formR_ok h.ok (h.mi m hm);have h1:=fits_qsz (valid_fits (h.tx m hm));have h2:=sub_qsz (qOf m.txt) (formR x m).2;have h3:=mul_qsz (m.wt:Rat) (qOf m.txt-(formR x m).2);have h4:=wt_q1 (h.wt m hm);have h5:=h0.fr;unfold mdvR;omega
theorem MOk.rgt (h:MOk x ms):∀ q∈rgtR (freeL x).length x ms ms.length,qsz q≤2600000000:=fun q hq=>by
 obtain ⟨t,ht⟩:=List.mem_iff_getElem?.1 hq;have htl:t<(freeL x).length:=by have:=(zB_.1 ht).1;rwa [rgtR_len] at this
 have h0:∀ u,u<ms.length→qsz (mdvF x ms u*vf ((rowsR x ms).getD u []) t)≤3000:=fun u hu=>by
  obtain ⟨m2,hm2⟩:∃ m2,ms[u]?=some m2:=⟨_,zA_ hu⟩;have h1:=h.mdv (zC_ hm2);have h3:=row_q3 (rowsR_ok h.ok h.mi).2 u t;have h4:=mul_qsz (mdvF x ms u) (vf ((rowsR x ms).getD u []) t);rw [devF_at hm2] at h4 ⊢;omega
 have h5:=rgt_qsz htl (k:=ms.length) h0;rw [vf_at ht] at h5;have:=h.k64;omega
theorem MOk.ang (h:MOk x ms) {i:Nat} (hi:i<(freeL x).length):qsz (estD x ms i)≤41600000010:=by
 obtain ⟨a,ha⟩:∃ a,(invL (gainR (freeL x).length (rowsR x ms) ms))[i]?=some a:=zX_ (by rw [(invL_len gain_wid).1,gainR_len];exact hi);have h1:a.length=(freeL x).length:=by
  have h:=(invL_len (M:=gainR (freeL x).length (rowsR x ms) ms) gain_wid).2 a (zC_ ha);rwa [gainR_len] at h
 have h2:=inv_sz h.ok h.h8 h.mi h.wt h.k64 a (zC_ ha);have h4:=dotR_qsz (ys:=rgtR (freeL x).length x ms ms.length) h1 h2 h.rgt (freeL x).length lR;rw [zH_ (by rw [List.length_zipWith];omega)] at h4;have h5:=freeL_len h.ok h.h8;unfold estD;rw [zD_,ha];show qsz (dotR a _)≤_;unfold dotR;refine zI_ h4 ?_;exact Nat.succ_le_succ (zI_ (Nat.mul_le_mul_right _ h5) (by decide))
theorem MOk.est (h:MOk x ms):∀ q∈estR x ms,qsz q≤41600000010:=fun q hq=>by
 obtain ⟨j,hj⟩:=List.mem_iff_getElem?.1 hq;have hjl:j<busN x:=by have:=(zB_.1 hj).1;rwa [est_len] at this
 have e:=est_vf (x:=x) (ms:=ms) hjl;rw [vf_at hj] at e;rw [e];unfold ext
 by_cases hp:freeB (islN x) j=true
 ·rw [if_pos hp]
  exact h.ang (zB_.1 (pick_of hp hjl)).1
 ·rw [if_neg hp]
  exact zI_ (qsz_whole 0 (by decide) (by decide)) (by decide)
theorem MOk.res (h:MOk x ms):∀ q∈residR x ms (estR x ms),qsz q≤700000000000:=fun q hq=>by
 unfold residR at hq;obtain ⟨m,hm,rfl⟩:=List.mem_map.1 hq;have h0:=formR_ok h.ok (h.mi m hm);have h1:=fits_qsz (valid_fits (h.tx m hm));have h2:=dotR_qsz (ys:=estR x ms) (Z:=41600000010) h0.len (fun q hq=>zI_ (h0.cf q hq) (by decide)) h.est (busN x) lR;rw [zH_ (by rw [List.length_zipWith,h0.len];omega)] at h2;have h3:=add_qsz (dotR (formR x m).1 (estR x ms)) (formR x m).2;have h4:=sub_qsz (qOf m.txt) (dotR (formR x m).1 (estR x ms)+(formR x m).2);have h5:=h0.fr;have h6:busN x≤8:=zI_ (busN_ok h.ok).2 h.h8;have h7:qsz (dotR (formR x m).1 (estR x ms))≤665600000169:=by
  unfold dotR;refine zI_ h2 ?_;exact Nat.succ_le_succ (zI_ (Nat.mul_le_mul_right _ h6) (by decide))
 omega
theorem MOk.spr (h:MOk x ms):∀ q∈sprR x ms,qsz q≤400000000000:=fun q hq=>by
 obtain ⟨k,hk⟩:=List.mem_iff_getElem?.1 hq;have hkl:k<ms.length:=by have:=(zB_.1 hk).1;rwa [sprR_len] at this
 obtain ⟨m,hm⟩:∃ m,ms[k]?=some m:=⟨_,zA_ hkl⟩;rw [sprR_get hm] at hk;injection hk with hk;rw [←hk];have h1:=sprK_qsz h.ok h.h8 h.mi h.wt h.k64 hm (freeL x).length lR;have h2:=freeL_len h.ok h.h8;omega
end
def WOk (rs ss:List Rat) (k:Nat):Prop:=vf rs k≠0∧vf ss k≠0
def wqR (rs ss:List Rat) (k:Nat):Rat:=vf rs k*vf rs k / vf ss k
def WBest (rs ss:List Rat) (n:Nat) (b:Int):Prop:=(b=-1∧∀ k,k<n→¬WOk rs ss k)∨∃ j:Nat,b=(j:Int)∧j<n∧WOk rs ss j∧(∀ i,i<n→WOk rs ss i→wqR rs ss i≤wqR rs ss j)∧∀ i,i<j→WOk rs ss i→wqR rs ss i<wqR rs ss j
section
variable {rs ss:List Rat} {n:Nat} {b:Int}
theorem WBest.zero:WBest rs ss 0 (-1):=.inl ⟨rfl,fun k hk=>absurd hk (by omega)⟩
theorem WBest.skip (h:WBest rs ss n b) (hn:¬WOk rs ss n):WBest rs ss (n+1) b:=by
 rcases h with ⟨h1,h2⟩ | ⟨j,h1,h2,h3,h4,h5⟩
 ·exact .inl ⟨h1,fun k hk=>by
   by_cases e:k=n
   ·rw [e];exact hn
   ·exact h2 k (by omega)⟩
 ·exact .inr ⟨j,h1,by omega,h3,fun i hi hw=>by
   by_cases e:i=n
   ·rw [e] at hw;exact absurd hw hn
   ·exact h4 i (by omega) hw,h5⟩
theorem WBest.first (h:WBest rs ss n (-1)) (hn:WOk rs ss n):WBest rs ss (n+1) (n:Int):=by
 rcases h with ⟨-,h2⟩ | ⟨j,h1,-⟩
 ·exact .inr ⟨n,rfl,by omega,hn,fun i hi hw=>by
   by_cases e:i=n
   ·rw [e];exact Rat.le_refl
   ·exact absurd hw (h2 i (by omega)),fun i hi hw=>absurd hw (h2 i (by omega))⟩
 ·omega
theorem WBest.take {j:Nat} (h:WBest rs ss n (j:Int)) (hn:WOk rs ss n) (hq:wqR rs ss j<wqR rs ss n):WBest rs ss (n+1) (n:Int):=by
 rcases h with ⟨h1,-⟩ | ⟨j',h1,h2,h3,h4,h5⟩
 ·omega
 ·have e:j'=j:=by omega
  subst e;exact .inr ⟨n,rfl,by omega,hn,fun i hi hw=>by
   by_cases e:i=n
   ·rw [e];exact Rat.le_refl
   ·have:=h4 i (by omega) hw;grind,fun i hi hw=>by
   have:=h4 i (by omega) hw;grind⟩
theorem WBest.stay {j:Nat} (h:WBest rs ss n (j:Int)) (hq:¬wqR rs ss j<wqR rs ss n):WBest rs ss (n+1) (j:Int):=by
 rcases h with ⟨h1,-⟩ | ⟨j',h1,h2,h3,h4,h5⟩
 ·omega
 ·have e:j'=j:=by omega
  subst e;exact .inr ⟨j',rfl,by omega,h3,fun i hi hw=>by
   by_cases e:i=n
   ·rw [e];grind
   ·exact h4 i (by omega) hw,h5⟩
theorem WBest.one {c:Int} (h:WBest rs ss n b) (g:WBest rs ss n c):b=c:=by
 rcases h with ⟨h1,h2⟩ | ⟨j,h1,h2,h3,h4,h5⟩<;>rcases g with ⟨g1,g2⟩ | ⟨i,g1,g2,g3,g4,g5⟩
 ·omega
 ·exact absurd g3 (h2 i g2)
 ·exact absurd h3 (g2 j h2)
 ·rcases Nat.lt_trichotomy i j with e | e | e
  ·have:=h5 i e g3
   have:=g4 j h2 h3;grind
  ·omega
  ·have:=g5 j e h3
   have:=h4 i g2 g3;grind
theorem cmpQ_lt {p q:Rat}:0<cmpQ p q↔q<p:=by
 unfold cmpQ;rw [←Rat.not_le];have h5:=Rat.le_iff p q;rw [h5]
 constructor
 ·intro h hle
  rcases Int.lt_trichotomy (p.num*(q.den:Int)-q.num*(p.den:Int)) 0 with c | c | c
  ·rw [Int.sign_eq_neg_one_of_neg c] at h;omega
  ·rw [c] at h;exact absurd h (by decide)
  ·omega
 ·intro h
  have c:0<p.num*(q.den:Int)-q.num*(p.den:Int):=by omega
  rw [Int.sign_eq_one_of_pos c];decide
theorem sgn_z {p:Rat}:(p.num.sign == 0)=decide (p=0):=by
 have h1:p.num.sign=0↔p=0:=by
  rw [Int.sign_eq_zero_iff_zero];exact Rat.num_eq_zero
 by_cases h:p=0
 ·rw [h1.2 h,decide_eq_true h];rfl
 ·rw [decide_eq_false h]
  exact beq_eq_false_iff_ne.2 (fun e=>h (h1.1 e))
end
section
variable {x:Net} {ms:List Mi}
theorem ereg_erase (h:MOk x ms) (hr:EReg x ms) {k:Nat} (hk:k<ms.length) (hs:vf (sprR x ms) k≠0):EReg x (ms.eraseIdx k):=by
 have hp:(lsOf x ms).Pos:=ls_pos fun m hm=>(h.wt m hm).1;rw [vf_at (sprR_at h.ok h.mi hk)] at hs;refine (ereg_iff fun m hm=>(h.wt m (List.mem_of_mem_eraseIdx hm)).1).2 fun c hc=>?_;have hle:(ms.eraseIdx k).length=ms.length-1:=List.length_eraseIdx_of_lt hk;have hrest:∀ j,j<ms.length→j≠k→dotn (lsOf x ms).n ((lsOf x ms).R j) c=0:=fun j hj hne=>by
  obtain ⟨m,hm⟩:∃ m,ms[j]?=some m:=⟨_,zA_ hj⟩;rw [ls_row hm]
  by_cases hjk:j<k
  ·have e:(ms.eraseIdx k)[j]?=some m:=by rw [List.getElem?_eraseIdx_of_lt hjk];exact hm
   have:=hc j (by omega);rw [ls_row e] at this;exact this
  ·have e:(ms.eraseIdx k)[j-1]?=some m:=by
    rw [List.getElem?_eraseIdx_of_ge (by omega),show j-1+1=j by omega];exact hm
   have:=hc (j-1) (by omega);rw [ls_row e] at this;exact this
 have hkk:dotn (lsOf x ms).n ((lsOf x ms).R k) c=0:=by
  by_cases e:dotn (lsOf x ms).n ((lsOf x ms).R k) c=0
  ·exact e
  ·exact absurd ((solU_sol hr k).spr_of hp hk hrest e) hs
 exact (ereg_iff fun m hm=>(h.wt m hm).1).1 hr c fun j hj=>by
  by_cases e:j=k
  ·rw [e];exact hkk
  ·exact hrest j hj e
theorem resid_res (h:MOk x ms) {k:Nat} (hk:k<ms.length):vf (residR x ms (estR x ms)) k=(lsOf x ms).res (frF x (estR x ms)) k:=vf_at (residR_at h.ok h.mi est_grd hk)
theorem spr0_res (h:MOk x ms) (hr:EReg x ms) {k:Nat} (hk:k<ms.length) (h0:vf (sprR x ms) k=0):vf (residR x ms (estR x ms)) k=0:=by
 rw [vf_at (sprR_at h.ok h.mi hk)] at h0;rw [resid_res h hk];exact (solU_sol hr k).res_zero (ls_pos fun m hm=>(h.wt m hm).1) hk h0 (est_solF hr)
theorem none_zero (h:MOk x ms) (hr:EReg x ms) {b:Int} (hw:WBest (residR x ms (estR x ms)) (sprR x ms) ms.length b) (hb:b<0):∀ q∈residR x ms (estR x ms),q=0:=fun q hq=>by
 obtain ⟨k,hk⟩:=List.mem_iff_getElem?.1 hq;have hkl:k<ms.length:=by have:=(zB_.1 hk).1;rwa [residR_len] at this
 rw [←vf_at hk];rcases hw with ⟨-,h2⟩ | ⟨j,h1,-⟩
 ·by_cases e:vf (residR x ms (estR x ms)) k=0
  ·exact e
  ·by_cases e2:vf (sprR x ms) k=0
   ·exact spr0_res h hr hkl e2
   ·exact absurd ⟨e,e2⟩ (h2 k hkl)
 ·omega
end
inductive ClG (x:Net):List Nat→List Mi→List Nat→List Nat→Prop
 | done {nums:List Nat} {rest:List Mi} {out:List Nat} {b:Int}:WBest (residR x rest (estR x rest)) (sprR x rest) rest.length b→b<0→ClG x nums rest out out
 | step {nums:List Nat} {rest:List Mi} {out r:List Nat} {k i:Nat}:WBest (residR x rest (estR x rest)) (sprR x rest) rest.length (k:Int)→nums[k]?=some i→ClG x (nums.eraseIdx k) (rest.eraseIdx k) (out++[i]) r→ClG x nums rest out r
structure ClI (ms:List Mi) (nums:List Nat) (rest:List Mi) (out:List Nat):Prop where
 len:nums.length=rest.length
 at_:∀ (i j:Nat),nums[i]?=some j→rest[i]?=ms[j]?∧j<ms.length
 inc:nums.Pairwise (·<·)
 off:∀ j,j<ms.length→(j∈nums↔¬j∈out)
 tot:out.length+nums.length=ms.length
theorem ClI.zero (ms:List Mi):ClI ms (List.range ms.length) ms []:=⟨List.length_range,fun i j h=>by
 obtain ⟨h1,h2⟩:=zB_.1 h;rw [List.getElem_range] at h2;rw [List.length_range] at h1;exact ⟨by rw [h2],by omega⟩,List.pairwise_lt_range,fun j hj=>by simp [hj],by simp⟩
theorem pw_nodup {l:List Nat} (h:l.Pairwise (·<·)):l.Nodup:=h.imp fun hab e=>by omega
theorem mem_erase_iff {l:List Nat} (h:l.Nodup) {k i:Nat} (hk:l[k]?=some i) (j:Nat):j∈l.eraseIdx k↔j∈l∧j≠i:=by
 obtain ⟨hkl,hki⟩:=zB_.1 hk;rw [List.mem_eraseIdx_iff_getElem?]
 constructor
 ·rintro ⟨t,ht,hj⟩
  refine ⟨zC_ hj,fun e=>ht ?_⟩;subst e;obtain ⟨a1,a2⟩:=zB_.1 hj;exact (List.getElem_inj h).1 (a2.trans hki.symm)
 ·rintro ⟨hj,hne⟩
  obtain ⟨t,ht⟩:=List.mem_iff_getElem?.1 hj;refine ⟨t,fun e=>hne ?_,ht⟩;subst e;rw [hk] at ht;injection ht with ht;exact ht.symm
theorem ClI.step {ms rest:List Mi} {nums out:List Nat} (h:ClI ms nums rest out) {k i:Nat} (hk:nums[k]?=some i):ClI ms (nums.eraseIdx k) (rest.eraseIdx k) (out++[i]):=by
 have hkl:k<nums.length:=(zB_.1 hk).1;refine ⟨by rw [List.length_eraseIdx_of_lt hkl,List.length_eraseIdx_of_lt (by rw [←h.len];exact hkl),h.len],fun t j ht=>?_,h.inc.sublist (List.eraseIdx_sublist _ _),fun j hj=>?_,?_⟩
 ·rw [List.getElem?_eraseIdx] at ht ⊢
  split at ht
  ·rename_i h1;rw [if_pos h1];exact h.at_ _ _ ht
  ·rename_i h1;rw [if_neg h1];exact h.at_ _ _ ht
 ·rw [mem_erase_iff (pw_nodup h.inc) hk,h.off j hj,List.mem_append,List.mem_singleton,not_or]
 ·rw [zE_,List.length_eraseIdx_of_lt hkl,List.length_singleton]
  have:=h.tot;omega
theorem clG_end {x:Net} {ms0:List Mi}:∀ {nums:List Nat} {ms:List Mi} {out r:List Nat},ClG x nums ms out r→MOk x ms→EReg x ms→ClI ms0 nums ms out→
    ∃ nums' ms',ClI ms0 nums' ms' r∧MOk x ms'∧EReg x ms'∧∀ q∈residR x ms' (estR x ms'),q=0:=by
 intro nums ms out r h
 induction h with
 | done hw hb=>exact fun hm hr hi=>⟨_,_,hi,hm,hr,none_zero hm hr hw hb⟩
 | @step nums rest out r k i hw hk _ ih=>
  intro hm hr hi;have hkr:k<rest.length:=by rw [←hi.len];exact (zB_.1 hk).1
  refine ih (hm.sub (List.eraseIdx_sublist _ _)) (ereg_erase hm hr hkr ?_) (hi.step hk);rcases hw with ⟨h1,-⟩ | ⟨j,h1,h2,h3,-⟩
  ·omega
  ·have e:j=k:=by omega
   rw [←e];exact h3.2
end
end Go.Proofs.YthgdchffeigkbaaGreatDoor
