import Derived.Test.YthgdchffeigkbaaGreatDoorU11
import Derived.Test.YthgdchffeigkbaaGreatDoorU12
import Derived.StillTailTactics
import Derived.Deep.LoopGhost
set_option linter.unusedVariables false
set_option linter.unusedSimpArgs false
namespace Go.Proofs.YthgdchffeigkbaaGreatDoor
set_option maxHeartbeats 8000000
set_option maxRecDepth 100000
section
def vf (l:List Rat):Fn:=fun i=>l.getD i 0
def vfs (M:List (List Rat)):List Fn:=M.map vf
theorem vf_at {l:List Rat} {i:Nat} {x:Rat} (h:l[i]?=some x):vf l i=x:=by unfold vf;rw [zD_,h];rfl
theorem vf_get {l:List Rat} {i:Nat} (h:i<l.length):l[i]?=some (vf l i):=by unfold vf;rw [zD_,zA_ h];rfl
theorem vfs_at {M:List (List Rat)} {i:Nat} {f:Fn} (h:(vfs M)[i]?=some f):∃ a,M[i]?=some a∧f=vf a:=by
 unfold vfs at h;rw [zM_] at h;obtain ⟨a,ha,he⟩:=Option.map_eq_some_iff.1 h;exact ⟨a,ha,he.symm⟩
theorem vfs_get {M:List (List Rat)} {i:Nat} {a:List Rat} (h:M[i]?=some a):(vfs M)[i]?=some (vf a):=by unfold vfs;rw [zM_,h];rfl
theorem vfs_len (M:List (List Rat)):(vfs M).length=M.length:=by unfold vfs;rw [zG_]
theorem ker_iff {n:Nat} {M:List (List Rat)} {x:Fn}:Ker n (vfs M) x↔∀ (i:Nat) (a:List Rat),M[i]?=some a→dotn n (vf a) x=0:=by
 constructor
 ·intro h i a ha
  exact h _ (zC_ (vfs_get ha))
 ·intro h f hf
  obtain ⟨i,hi⟩:=List.mem_iff_getElem?.1 hf;obtain ⟨a,ha,rfl⟩:=vfs_at hi;exact h i a ha
def divR (d:Rat) (row:List Rat):List Rat:=row.map fun x=>x / d
def subR (f:Rat) (R row:List Rat):List Rat:=List.zipWith (fun x y=>x-f*y) row R
theorem divR_len (d:Rat) (row:List Rat):(divR d row).length=row.length:=by unfold divR;rw [zG_]
theorem subR_len {f:Rat} {R row:List Rat} (h:R.length=row.length):(subR f R row).length=row.length:=by unfold subR;rw [List.length_zipWith,h,Nat.min_self]
theorem divR_vf {d:Rat} {row:List Rat} {i:Nat} (h:i<row.length):vf (divR d row) i=vf row i / d:=by
 refine vf_at ?_;unfold divR;rw [zM_,vf_get h];rfl
theorem subR_vf {f:Rat} {R row:List Rat} {i:Nat} (h:i<row.length) (hl:R.length=row.length):vf (subR f R row) i=vf row i-f*vf R i:=by
 refine vf_at ?_;unfold subR;rw [List.getElem?_zipWith,vf_get h,vf_get (by rw [hl];exact h)]
def preStep (M:List (List Rat)) (r p k:Nat):List (List Rat):=(M.set p (M.getD r [])).set r (divR (vf (M.getD p []) k) (M.getD p []))
def colStep (M:List (List Rat)) (r p k:Nat):List (List Rat):=(preStep M r p k).mapIdx fun i row=>if i=r then row else subR (vf row k) (divR (vf (M.getD p []) k) (M.getD p [])) row
theorem preStep_len (M:List (List Rat)) (r p k:Nat):(preStep M r p k).length=M.length:=by unfold preStep;rw [zU_,zU_]
theorem colStep_len (M:List (List Rat)) (r p k:Nat):(colStep M r p k).length=M.length:=by unfold colStep;rw [List.length_mapIdx,preStep_len]
section
variable {M:List (List Rat)} {N r p k:Nat} {Rp Rr:List Rat}
theorem pre_r (hr:M[r]?=some Rr) (hp:M[p]?=some Rp):(preStep M r p k)[r]?=some (divR (vf Rp k) Rp):=by
 unfold preStep;rw [List.getElem?_set_self (by rw [zU_];exact (zB_.1 hr).1),zD_,hp];rfl
theorem pre_p (hr:M[r]?=some Rr) (hp:M[p]?=some Rp) (hrp:r≠p):(preStep M r p k)[p]?=some Rr:=by
 unfold preStep;rw [List.getElem?_set_ne hrp,List.getElem?_set_self (zB_.1 hp).1,zD_,hr];rfl
theorem pre_off {i:Nat} (h1:i≠r) (h2:i≠p):(preStep M r p k)[i]?=M[i]?:=by
 unfold preStep;rw [List.getElem?_set_ne (fun e=>h1 e.symm),List.getElem?_set_ne (fun e=>h2 e.symm)]
theorem pre_src {i:Nat} {a:List Rat} (hr:M[r]?=some Rr) (hp:M[p]?=some Rp) (hi:i≠r) (h:(preStep M r p k)[i]?=some a):∃ s,M[s]?=some a∧s≠p∧(s=i∨(i=p∧s=r)):=by
 by_cases hip:i=p
 ·subst hip
  rw [pre_p hr hp (fun e=>hi e.symm)] at h;injection h with h;subst h;exact ⟨r,hr,fun e=>hi e.symm,.inr ⟨rfl,rfl⟩⟩
 ·rw [pre_off hi hip] at h
  exact ⟨i,h,hip,.inl rfl⟩
theorem col_at {i:Nat} {a':List Rat} (hp:M[p]?=some Rp) (h:(colStep M r p k)[i]?=some a'):∃ a,(preStep M r p k)[i]?=some a∧a'=if i=r then a else subR (vf a k) (divR (vf Rp k) Rp) a:=by
 unfold colStep at h;rw [List.getElem?_mapIdx] at h;obtain ⟨a,ha,he⟩:=Option.map_eq_some_iff.1 h;refine ⟨a,ha,?_⟩;rw [←he];have:M.getD p []=Rp:=by rw [zD_,hp];rfl
 rw [this]
theorem col_get {i:Nat} {a:List Rat} (hp:M[p]?=some Rp) (h:(preStep M r p k)[i]?=some a):(colStep M r p k)[i]?=some (if i=r then a else subR (vf a k) (divR (vf Rp k) Rp) a):=by
 unfold colStep;rw [List.getElem?_mapIdx,h];have:M.getD p []=Rp:=by rw [zD_,hp];rfl
 rw [this];rfl
theorem pre_width (hw:∀ a∈M,a.length=N) (hr:M[r]?=some Rr) (hp:M[p]?=some Rp):∀ a∈preStep M r p k,a.length=N:=by
 intro a ha;obtain ⟨i,hi⟩:=List.mem_iff_getElem?.1 ha
 by_cases hir:i=r
 ·subst hir
  rw [pre_r hr hp] at hi;injection hi with hi;subst hi;rw [divR_len];exact hw _ (zC_ hp)
 ·obtain ⟨s,hs,_⟩:=pre_src hr hp hir hi
  exact hw _ (zC_ hs)
theorem col_width (hw:∀ a∈M,a.length=N) (hr:M[r]?=some Rr) (hp:M[p]?=some Rp):∀ a∈colStep M r p k,a.length=N:=by
 intro a ha;obtain ⟨i,hi⟩:=List.mem_iff_getElem?.1 ha;obtain ⟨b,hb,rfl⟩:=col_at hp hi;have h1:=pre_width (k:=k) hw hr hp b (zC_ hb);have h2:=hw _ (zC_ hp)
 split
 ·exact h1
 ·rw [subR_len (by rw [divR_len,h1,h2]),h1]
theorem divR_dot {n:Nat} {d:Rat} {row:List Rat} (h:n≤row.length) (x:Fn):dotn n (vf (divR d row)) x=(1 / d)*dotn n (vf row) x:=by
 rw [←dotn_mull];exact dotn_congr (fun i hi=>by rw [divR_vf (by omega)];grind) fun _ _=>rfl
theorem subR_dot {n:Nat} {f:Rat} {R row:List Rat} (h:n≤row.length) (hl:R.length=row.length) (x:Fn):dotn n (vf (subR f R row)) x=dotn n (vf row) x+(-f)*dotn n (vf R) x:=by
 rw [←dotn_mull,←dotn_addl];exact dotn_congr (fun i hi=>by rw [subR_vf (by omega) hl];grind) fun _ _=>rfl
theorem col_ker {n:Nat} (hn:n≤N) (hw:∀ a∈M,a.length=N) (hr:M[r]?=some Rr) (hp:M[p]?=some Rp) (hd:vf Rp k≠0) (x:Fn):Ker n (vfs (colStep M r p k)) x↔Ker n (vfs M) x:=by
 have hpl:=hw _ (zC_ hp);rw [ker_iff,ker_iff]
 constructor
 ·intro h
  have hR:dotn n (vf (divR (vf Rp k) Rp)) x=0:=by
   have:=h r _ (col_get hp (pre_r hr hp));rwa [if_pos rfl] at this
  have hP:dotn n (vf Rp) x=0:=by
   rw [divR_dot (by omega)] at hR;generalize vf Rp k=d at *;grind
  intro i a ha
  by_cases hip:i=p
  ·subst hip
   rw [hp] at ha;injection ha with ha;subst ha;exact hP
  ·have hal:=hw _ (zC_ ha)
   have key:∀ s,s≠r→(preStep M r p k)[s]?=some a→dotn n (vf a) x=0:=fun s hs hsa=>by
    have:=h s _ (col_get hp hsa);rw [if_neg hs,subR_dot (by omega) (by rw [divR_len,hpl,hal]),hR,Rat.mul_zero,Rat.add_zero] at this;exact this
   by_cases hir:i=r
   ·subst hir
    rw [hr] at ha;injection ha with ha;subst ha;exact key p (fun e=>hip e.symm) (pre_p hr hp hip)
   ·exact key i hir (by rw [pre_off hir hip];exact ha)
 ·intro h i a' ha'
  have hR:dotn n (vf (divR (vf Rp k) Rp)) x=0:=by rw [divR_dot (by omega),h p Rp hp,Rat.mul_zero]
  obtain ⟨a,ha,rfl⟩:=col_at hp ha'
  by_cases hir:i=r
  ·subst hir
   rw [if_pos rfl];rw [pre_r hr hp] at ha;injection ha with ha;subst ha;exact hR
  ·rw [if_neg hir]
   obtain ⟨s,hs,_⟩:=pre_src hr hp hir ha;have hal:=hw _ (zC_ hs);rw [subR_dot (by omega) (by rw [divR_len,hpl,hal]),h s a hs,hR,Rat.mul_zero,Rat.add_zero]
theorem col_ech {piv:List Nat} (E:Ech (vfs M) piv k) (hw:∀ a∈M,a.length=N) (hk:k<N) (hrl:r=piv.length) (hr:M[r]?=some Rr) (hp:M[p]?=some Rp) (hrp:r≤p) (hd:vf Rp k≠0):Ech (vfs (colStep M r p k)) (piv++[k]) (k+1):=by
 have hpl:=hw _ (zC_ hp);have hRz:∀ j,j<k→vf (divR (vf Rp k) Rp) j=0:=fun j hj=>by
  rw [divR_vf (by omega),E.rest p _ (vfs_get hp) (by omega) j hj];exact Rat.div_def 0 _▸Rat.zero_mul _
 have hR1:vf (divR (vf Rp k) Rp) k=1:=by
  rw [divR_vf (by omega)];generalize vf Rp k=d at *;grind
 have row:∀ i a',(colStep M r p k)[i]?=some a'→i≠r→∃ s a,M[s]?=some a∧(s=i∨(i=p∧s=r))∧vf a' k=0∧∀ j,j<k→vf a' j=vf a j:=fun i a' ha' hir=>by
  obtain ⟨a,ha,rfl⟩:=col_at hp ha';obtain ⟨s,hs,_,h2⟩:=pre_src hr hp hir ha;have hal:=hw _ (zC_ hs);refine ⟨s,a,hs,h2,?_,fun j hj=>?_⟩
  ·rw [if_neg hir,subR_vf (by omega) (by rw [divR_len,hpl,hal]),hR1];grind
  ·rw [if_neg hir,subR_vf (by omega) (by rw [divR_len,hpl,hal]),hRz j hj];grind
 have prow:∀ a',(colStep M r p k)[r]?=some a'→a'=divR (vf Rp k) Rp:=fun a' ha'=>by
  obtain ⟨a,ha,rfl⟩:=col_at hp ha';rw [if_pos rfl];rw [pre_r hr hp] at ha;injection ha with ha;exact ha.symm
 have pv:∀ t q,(piv++[k])[t]?=some q→(t<piv.length∧piv[t]?=some q∧q<k)∨(t=r∧q=k):=fun t q h=>by
  rcases Nat.lt_or_ge t piv.length with hlt | hge
  ·rw [zR_ hlt] at h
   exact .inl ⟨hlt,h,E.lt q (zC_ h)⟩
  ·rw [zN_ hge] at h
   have:t-piv.length=0:=by
    have:=(zB_.1 h).1;simp at this;omega
   rw [this] at h;simp at h;exact .inr ⟨by omega,h.symm⟩
 have hrM:=(zB_.1 hr).1;refine ⟨?_,?_,?_,?_,?_,?_,?_⟩
 ·rw [vfs_len,colStep_len,zE_,List.length_singleton];omega
 ·rw [List.pairwise_append]
  exact ⟨E.inc,List.pairwise_singleton _ _,fun a ha b hb=>by rw [List.mem_singleton.1 hb];exact E.lt a ha⟩
 ·intro q hq
  rcases List.mem_append.1 hq with h | h
  ·have:=E.lt q h;omega
  ·rw [List.mem_singleton.1 h];omega
 ·intro t q f h1 h2
  obtain ⟨a',ha',rfl⟩:=vfs_at h2;rcases pv t q h1 with ⟨hlt,hq,hqk⟩ | ⟨rfl,rfl⟩
  ·obtain ⟨s,a,hs,hsi,_,hj⟩:=row t a' ha' (by omega)
   rw [hj q hqk];rcases hsi with rfl | ⟨e1,e2⟩
   ·exact E.one s q _ hq (vfs_get hs)
   ·omega
  ·rw [prow a' ha'];exact hR1
 ·intro t q i f h1 h2 hit
  obtain ⟨a',ha',rfl⟩:=vfs_at h2;rcases pv t q h1 with ⟨hlt,hq,hqk⟩ | ⟨rfl,rfl⟩
  ·by_cases hir:i=r
   ·subst hir
    rw [prow a' ha'];exact hRz q hqk
   ·obtain ⟨s,a,hs,hsi,_,hj⟩:=row i a' ha' hir
    rw [hj q hqk];refine E.zer t q s _ hq (vfs_get hs) ?_;rcases hsi with rfl | ⟨e1,e2⟩
    ·exact hit
    ·omega
  ·obtain ⟨s,a,_,_,h0,_⟩:=row i a' ha' hit
   exact h0
 ·intro t q f h1 h2 j hj
  obtain ⟨a',ha',rfl⟩:=vfs_at h2;rcases pv t q h1 with ⟨hlt,hq,hqk⟩ | ⟨rfl,rfl⟩
  ·obtain ⟨s,a,hs,hsi,_,hjj⟩:=row t a' ha' (by omega)
   rw [hjj j (by omega)];rcases hsi with rfl | ⟨e1,e2⟩
   ·exact E.low s q _ hq (vfs_get hs) j hj
   ·omega
  ·rw [prow a' ha'];exact hRz j hj
 ·intro i f h2 hi j hj
  obtain ⟨a',ha',rfl⟩:=vfs_at h2;rw [zE_,List.length_singleton] at hi;obtain ⟨s,a,hs,hsi,h0,hjj⟩:=row i a' ha' (by omega)
  by_cases hjk:j=k
  ·subst hjk;exact h0
  ·rw [hjj j (by omega)]
   refine E.rest s _ (vfs_get hs) ?_ j (by omega);rcases hsi with rfl | ⟨e1,e2⟩<;>omega
theorem skip_ech {piv:List Nat} (E:Ech (vfs M) piv k) (h:∀ i a,M[i]?=some a→piv.length≤i→vf a k=0):Ech (vfs M) piv (k+1):=
 ⟨E.le,E.inc,fun p hp=>Nat.lt_succ_of_lt (E.lt p hp),E.one,E.zer,E.low,fun i f hf hi j hj=>by
  obtain ⟨a,ha,rfl⟩:=vfs_at hf
  by_cases hjk:j=k
  ·subst hjk;exact h i a ha hi
  ·exact E.rest i _ (vfs_get ha) hi j (by omega)⟩
theorem full_ech {piv:List Nat} {n:Nat} (E:Ech (vfs M) piv k) (h:piv.length=M.length) (hk:k≤n):Ech (vfs M) piv n:=
 ⟨E.le,E.inc,fun p hp=>zJ_ (E.lt p hp) hk,E.one,E.zer,E.low,fun i f hf hi j hj=>by
  have:=(zB_.1 hf).1;rw [vfs_len] at this;omega⟩
theorem start_ech (M:List (List Rat)):Ech (vfs M) [] 0:=
 ⟨Nat.zero_le _,List.Pairwise.nil,fun p hp=>(by cases hp),fun t p a h=>by simp at h,fun t p i a h=>by simp at h,fun t p a h=>by simp at h,fun i a h hi j hj=>by omega⟩
end
def pivR (M:List (List Rat)) (r k:Nat):Nat:=r+(M.drop r).findIdx fun row=>vf row k != 0
def redGo:Nat→List (List Rat)→List Nat→Nat→List (List Rat)×List Nat
 | 0,M,piv,_=>(M,piv)
 | s+1,M,piv,k=>if piv.length<M.length then (if pivR M piv.length k=M.length then redGo s M piv (k+1) else redGo s (colStep M piv.length (pivR M piv.length k) k) (piv++[k]) (k+1)) else (M,piv)
def redR (M:List (List Rat)) (cols:Nat):List (List Rat)×List Nat:=redGo cols M [] 0
def widthR (M:List (List Rat)):Nat:=match M with | []=>0 | a::_=>a.length
def rankR (M:List (List Rat)):Nat:=(redR M (widthR M)).2.length
theorem pivR_le {M:List (List Rat)} {r k:Nat} (h:r≤M.length):r≤pivR M r k∧pivR M r k≤M.length:=by
 unfold pivR;have h1:(M.drop r).findIdx (fun row=>vf row k != 0)≤(M.drop r).length:=List.findIdx_le_length;rw [zS_] at h1;omega
theorem pivR_none {M:List (List Rat)} {r k:Nat} (h:r≤M.length) (hp:pivR M r k=M.length):∀ (i:Nat) (a:List Rat),M[i]?=some a→r≤i→vf a k=0:=by
 intro i a hi hri;have hlt:=(zB_.1 hi).1;have h2:(M.drop r).findIdx (fun row=>vf row k != 0)=(M.drop r).length:=by unfold pivR at hp;rw [zS_];omega
 have h3:=List.findIdx_eq_length.1 h2 a (zC_ (i:=i-r) (by rw [List.getElem?_drop];rw [show r+(i-r)=i from by omega];exact hi));simpa using h3
theorem pivR_some {M:List (List Rat)} {r k:Nat} (h:r≤M.length) (hp:pivR M r k≠M.length):∃ a,M[pivR M r k]?=some a∧vf a k≠0:=by
 have h1:=pivR_le (k:=k) h;have h2:(M.drop r).findIdx (fun row=>vf row k != 0)<(M.drop r).length:=by
  have:(M.drop r).findIdx (fun row=>vf row k != 0)≤(M.drop r).length:=List.findIdx_le_length;rw [zS_] at *;unfold pivR at *;omega
 have h3:=List.findIdx_getElem (p:=fun row=>vf row k != 0) (xs:=M.drop r) (w:=h2);refine ⟨_,zA_ (by omega),?_⟩;rw [List.getElem_drop] at h3;simpa [pivR] using h3
theorem pivR_before {M:List (List Rat)} {r k i:Nat} {a:List Rat} (hi:M[i]?=some a) (h1:r≤i) (h2:i<pivR M r k):vf a k=0:=by
 have h3:=List.not_of_lt_findIdx (p:=fun row=>vf row k != 0) (xs:=M.drop r) (i:=i-r) (by unfold pivR at h2;omega);have hlt:=(zB_.1 hi).1;rw [List.getElem_drop] at h3;have:M[r+(i-r)]'(by omega)=a:=by
  have e:r+(i-r)=i:=by omega
  have:=(zB_.1 hi).2;simp only [e];exact this
 rw [this] at h3;simpa using h3
theorem pivR_at {M:List (List Rat)} {r k p:Nat} {a:List Rat} (hr:r≤p) (hp:M[p]?=some a) (ha:vf a k≠0) (hb:∀ (i:Nat) (b:List Rat),M[i]?=some b→r≤i→i<p→vf b k=0):pivR M r k=p:=by
 have hlt:=(zB_.1 hp).1;have h1:=pivR_le (M:=M) (r:=r) (k:=k) (by omega);rcases Nat.lt_trichotomy (pivR M r k) p with h | h | h
 ·obtain ⟨b,hb1,hb2⟩:=pivR_some (M:=M) (r:=r) (k:=k) (by omega) (by omega)
  exact absurd (hb _ b hb1 h1.1 h) hb2
 ·exact h
 ·exact absurd (pivR_before hp hr h) ha
theorem pivR_end {M:List (List Rat)} {r k:Nat} (hr:r≤M.length) (hb:∀ (i:Nat) (b:List Rat),M[i]?=some b→r≤i→vf b k=0):pivR M r k=M.length:=by
 refine Classical.byContradiction fun h=>?_;obtain ⟨a,h1,h2⟩:=pivR_some hr h;exact h2 (hb _ a h1 (pivR_le hr).1)
structure RedOk (M0 M:List (List Rat)) (N:Nat) (piv:List Nat) (k:Nat):Prop where
 ech:Ech (vfs M) piv k
 wid:∀ a∈M,a.length=N
 ker:∀ n,n≤N→∀ x,Ker n (vfs M) x↔Ker n (vfs M0) x
 len:M.length=M0.length
theorem redOk_start {M:List (List Rat)} {N:Nat} (h:∀ a∈M,a.length=N):RedOk M M N [] 0:=⟨start_ech M,h,fun _ _ _=>Iff.rfl,rfl⟩
theorem RedOk.skip {M0 M:List (List Rat)} {N k:Nat} {piv:List Nat} (h:RedOk M0 M N piv k) (hp:pivR M piv.length k=M.length):RedOk M0 M N piv (k+1):=
 ⟨skip_ech h.ech (pivR_none (by have:=h.ech.le;rwa [vfs_len] at this) hp),h.wid,h.ker,h.len⟩
theorem RedOk.step {M0 M:List (List Rat)} {N k:Nat} {piv:List Nat} (h:RedOk M0 M N piv k) (hk:k<N) (hl:piv.length<M.length) (hp:pivR M piv.length k≠M.length):RedOk M0 (colStep M piv.length (pivR M piv.length k) k) N (piv++[k]) (k+1):=by
 obtain ⟨Rp,hRp,hd⟩:=pivR_some (zQ_ hl) hp;obtain ⟨Rr,hRr⟩:∃ Rr,M[piv.length]?=some Rr:=⟨_,zA_ hl⟩;have h1:=pivR_le (M:=M) (k:=k) (zQ_ hl);exact ⟨col_ech h.ech h.wid hk rfl hRr hRp h1.1 hd,col_width h.wid hRr hRp,fun n hn x=>(col_ker hn h.wid hRr hRp hd x).trans (h.ker n hn x),(colStep_len ..).trans h.len⟩
theorem RedOk.full {M0 M:List (List Rat)} {N k n:Nat} {piv:List Nat} (h:RedOk M0 M N piv k) (hl:¬piv.length<M.length) (hk:k≤n):RedOk M0 M N piv n:=
 ⟨full_ech h.ech (by have:=h.ech.le;rw [vfs_len] at this;omega) hk,h.wid,h.ker,h.len⟩
theorem redGo_ok:∀ (s:Nat) {M0 M:List (List Rat)} {N k:Nat} {piv:List Nat},RedOk M0 M N piv k→k+s≤N→RedOk M0 (redGo s M piv k).1 N (redGo s M piv k).2 (k+s)
 | 0,_,_,_,_,_,h,_=>h
 | s+1,M0,M,N,k,piv,h,hk=>by
  unfold redGo
  by_cases hl:piv.length<M.length
  ·rw [if_pos hl]
   by_cases hp:pivR M piv.length k=M.length
   ·rw [if_pos hp]
    have:=redGo_ok s (h.skip hp) (by omega);rwa [show k+1+s=k+(s+1) from by omega] at this
   ·rw [if_neg hp]
    have:=redGo_ok s (h.step (by omega) hl hp) (by omega);rwa [show k+1+s=k+(s+1) from by omega] at this
  ·rw [if_neg hl]
   exact h.full hl (by omega)
theorem redR_ok {M:List (List Rat)} {N cols:Nat} (h:∀ a∈M,a.length=N) (hc:cols≤N):RedOk M (redR M cols).1 N (redR M cols).2 cols:=by
 have:=redGo_ok cols (redOk_start h) (by omega);rwa [Nat.zero_add] at this
def Bd (B:Nat) (M:List (List Rat)):Prop:=∀ a∈M,∀ x∈a,qsz x+1≤B
theorem Bd.mono {B C:Nat} {M:List (List Rat)} (h:Bd B M) (hc:B≤C):Bd C M:=fun a ha x hx=>zI_ (h a ha x hx) hc
theorem Bd.at_ {B:Nat} {M:List (List Rat)} (h:Bd B M) {i j:Nat} {a:List Rat} {x:Rat} (ha:M[i]?=some a) (hx:a[j]?=some x):qsz x+1≤B:=h a (zC_ ha) x (zC_ hx)
theorem Bd.vf {B:Nat} {M:List (List Rat)} (h:Bd B M) {i j:Nat} {a:List Rat} (ha:M[i]?=some a) (hj:j<a.length):qsz (vf a j)+1≤B:=h.at_ ha (vf_get hj)
section
variable {d f x:Rat} {R row:List Rat} {k i j:Nat}
def divP (d:Rat) (k j:Nat) (row:List Rat):List Rat:=row.mapIdx fun i x=>if k≤i∧i<j then x / d else x
def subP (f:Rat) (R:List Rat) (k j:Nat) (row:List Rat):List Rat:=row.mapIdx fun i x=>if k≤i∧i<j then x-f*vf R i else x
theorem divP_len:(divP d k j row).length=row.length:=by unfold divP;rw [List.length_mapIdx]
theorem subP_len:(subP f R k j row).length=row.length:=by unfold subP;rw [List.length_mapIdx]
theorem divP_start:divP d k k row=row:=by
 apply List.ext_getElem?;intro i;unfold divP;rw [List.getElem?_mapIdx];cases row[i]? with
 | none=>rfl
 | some x=>simp only [Option.map_some];rw [if_neg (by omega)]
theorem subP_start:subP f R k k row=row:=by
 apply List.ext_getElem?;intro i;unfold subP;rw [List.getElem?_mapIdx];cases row[i]? with
 | none=>rfl
 | some x=>simp only [Option.map_some];rw [if_neg (by omega)]
theorem divP_at (h:row[j]?=some x):(divP d k j row)[j]?=some x:=by
 unfold divP;rw [List.getElem?_mapIdx,h];simp only [Option.map_some];rw [if_neg (by omega)]
theorem subP_at (h:row[j]?=some x):(subP f R k j row)[j]?=some x:=by
 unfold subP;rw [List.getElem?_mapIdx,h];simp only [Option.map_some];rw [if_neg (by omega)]
theorem divP_step (hk:k≤j) (h:row[j]?=some x):(divP d k j row).set j (x / d)=divP d k (j+1) row:=by
 have hj:=(zB_.1 h).1;apply List.ext_getElem?;intro i;rw [List.getElem?_set,divP_len];unfold divP;rw [List.getElem?_mapIdx,List.getElem?_mapIdx]
 by_cases hi:j=i
 ·subst hi
  rw [if_pos rfl,if_pos hj,h];simp only [Option.map_some];rw [if_pos ⟨hk,by omega⟩]
 ·rw [if_neg hi]
  cases row[i]? with
  | none=>rfl
  | some y=>
   simp only [Option.map_some]
   by_cases h2:k≤i∧i<j
   ·rw [if_pos h2,if_pos ⟨h2.1,by omega⟩]
   ·rw [if_neg h2,if_neg (by omega)]
theorem subP_step (hk:k≤j) (h:row[j]?=some x):(subP f R k j row).set j (x-f*vf R j)=subP f R k (j+1) row:=by
 have hj:=(zB_.1 h).1;apply List.ext_getElem?;intro i;rw [List.getElem?_set,subP_len];unfold subP;rw [List.getElem?_mapIdx,List.getElem?_mapIdx]
 by_cases hi:j=i
 ·subst hi
  rw [if_pos rfl,if_pos hj,h];simp only [Option.map_some];rw [if_pos ⟨hk,by omega⟩]
 ·rw [if_neg hi]
  cases row[i]? with
  | none=>rfl
  | some y=>
   simp only [Option.map_some]
   by_cases h2:k≤i∧i<j
   ·rw [if_pos h2,if_pos ⟨h2.1,by omega⟩]
   ·rw [if_neg h2,if_neg (by omega)]
theorem subP_skip (h:vf R j=0):subP f R k (j+1) row=subP f R k j row:=by
 apply List.ext_getElem?;intro i;unfold subP;rw [List.getElem?_mapIdx,List.getElem?_mapIdx];cases row[i]? with
 | none=>rfl
 | some y=>
  simp only [Option.map_some]
  by_cases h2:k≤i∧i<j
  ·rw [if_pos h2,if_pos ⟨h2.1,by omega⟩]
  ·rw [if_neg h2]
   by_cases h3:i=j
   ·subst h3
    by_cases h4:k≤i∧i<i+1
    ·rw [if_pos h4,h,Rat.mul_zero,Rat.sub_eq_add_neg,Rat.neg_zero,Rat.add_zero]
    ·rw [if_neg h4]
   ·rw [if_neg (by omega)]
theorem divP_end (h:∀ i,i<k→vf row i=0):divP d k row.length row=divR d row:=by
 apply List.ext_getElem?;intro i;unfold divP divR;rw [List.getElem?_mapIdx,zM_];cases hx:row[i]? with
 | none=>rfl
 | some x=>
  have hi:=(zB_.1 hx).1;simp only [Option.map_some]
  by_cases hk:k≤i
  ·rw [if_pos ⟨hk,hi⟩]
  ·rw [if_neg (by omega)]
   have:=h i (by omega);rw [vf_at hx] at this;rw [this,Rat.div_def,Rat.zero_mul]
theorem subP_end (hl:R.length=row.length) (h:∀ i,i<k→vf R i=0):subP f R k row.length row=subR f R row:=by
 apply List.ext_getElem?;intro i;unfold subP subR;rw [List.getElem?_mapIdx,List.getElem?_zipWith];cases hx:row[i]? with
 | none=>rfl
 | some x=>
  have hi:=(zB_.1 hx).1;rw [vf_get (l:=R) (by omega)];simp only [Option.map_some]
  by_cases hk:k≤i
  ·rw [if_pos ⟨hk,hi⟩]
  ·rw [if_neg (by omega),h i (by omega),Rat.mul_zero,Rat.sub_eq_add_neg,Rat.neg_zero,Rat.add_zero]
theorem subR_zero (hl:R.length=row.length):subR 0 R row=row:=by
 apply List.ext_getElem?;intro i;unfold subR;rw [List.getElem?_zipWith];cases hx:row[i]? with
 | none=>rfl
 | some x=>
  have hi:=(zB_.1 hx).1;rw [vf_get (l:=R) (by omega)];simp only;rw [Rat.zero_mul,Rat.sub_eq_add_neg,Rat.neg_zero,Rat.add_zero]
end
def rowsP (M:List (List Rat)) (R:List Rat) (r k i:Nat):List (List Rat):=M.mapIdx fun t row=>if t<i∧t≠r then subR (vf row k) R row else row
section
variable {M:List (List Rat)} {R row:List Rat} {r p k i:Nat}
theorem rowsP_len:(rowsP M R r k i).length=M.length:=by unfold rowsP;rw [List.length_mapIdx]
theorem rowsP_start:rowsP M R r k 0=M:=by
 apply List.ext_getElem?;intro t;unfold rowsP;rw [List.getElem?_mapIdx];cases M[t]? with
 | none=>rfl
 | some x=>simp only [Option.map_some];rw [if_neg (by omega)]
theorem rowsP_at (h:M[i]?=some row):(rowsP M R r k i)[i]?=some row:=by
 unfold rowsP;rw [List.getElem?_mapIdx,h];simp only [Option.map_some];rw [if_neg (by omega)]
theorem rowsP_r (h:M[r]?=some row):(rowsP M R r k i)[r]?=some row:=by
 unfold rowsP;rw [List.getElem?_mapIdx,h];simp only [Option.map_some];rw [if_neg (by omega)]
theorem rowsP_self:rowsP M R r k (r+1)=rowsP M R r k r:=by
 apply List.ext_getElem?;intro t;unfold rowsP;rw [List.getElem?_mapIdx,List.getElem?_mapIdx];cases M[t]? with
 | none=>rfl
 | some x=>
  simp only [Option.map_some]
  by_cases h:t<r
  ·rw [if_pos ⟨by omega,by omega⟩,if_pos ⟨h,by omega⟩]
  ·rw [if_neg (by omega),if_neg (by omega)]
theorem rowsP_step (hi:i≠r) (h:M[i]?=some row):(rowsP M R r k i).set i (subR (vf row k) R row)=rowsP M R r k (i+1):=by
 have hl:=(zB_.1 h).1;apply List.ext_getElem?;intro t;rw [List.getElem?_set,rowsP_len];unfold rowsP;rw [List.getElem?_mapIdx,List.getElem?_mapIdx]
 by_cases ht:i=t
 ·subst ht
  rw [if_pos rfl,if_pos hl,h];simp only [Option.map_some];rw [if_pos ⟨by omega,hi⟩]
 ·rw [if_neg ht]
  cases M[t]? with
  | none=>rfl
  | some x=>
   simp only [Option.map_some]
   by_cases h2:t<i∧t≠r
   ·rw [if_pos h2,if_pos ⟨by omega,h2.2⟩]
   ·rw [if_neg h2,if_neg (by omega)]
theorem rowsP_skip (hl:R.length=row.length) (h:M[i]?=some row) (hz:vf row k=0):rowsP M R r k (i+1)=rowsP M R r k i:=by
 by_cases hi:i=r
 ·subst hi;exact rowsP_self
 ·rw [←rowsP_step hi h,hz,subR_zero hl]
  apply List.ext_getElem?;intro t;rw [List.getElem?_set]
  by_cases ht:i=t
  ·subst ht
   rw [if_pos rfl,if_pos (by rw [rowsP_len];exact (zB_.1 h).1),rowsP_at h]
  ·rw [if_neg ht]
theorem rowsP_end (hp:M[p]?=some row):rowsP (preStep M r p k) (divR (vf row k) row) r k M.length=colStep M r p k:=by
 unfold rowsP colStep;have e:M.getD p []=row:=by rw [zD_,hp];rfl
 rw [e];apply List.ext_getElem?;intro t;rw [List.getElem?_mapIdx,List.getElem?_mapIdx];cases hx:(preStep M r p k)[t]? with
 | none=>rfl
 | some x=>
  have ht:=(zB_.1 hx).1;rw [preStep_len] at ht;simp only [Option.map_some]
  by_cases h:t=r
  ·rw [if_neg (by omega),if_pos h]
  ·rw [if_pos ⟨ht,h⟩,if_neg h]
theorem swap_pre {a:List Rat} (hr:M[r]?=some a) (hp:M[p]?=some row):((M.set r row).set p a).set r (divR (vf row k) row)=preStep M r p k:=by
 unfold preStep;have e:M.getD p []=row:=by rw [zD_,hp];rfl
 have e2:M.getD r []=a:=by rw [zD_,hr];rfl
 rw [e,e2]
 by_cases h:r=p
 ·subst h;simp
 ·rw [List.set_comm _ _ (fun e=>h e.symm),List.set_set,List.set_comm _ _ h]
theorem swap_r {a:List Rat} (hr:M[r]?=some a) (hp:M[p]?=some row):((M.set r row).set p a)[r]?=some row:=by
 have h1:=(zB_.1 hr).1;rw [List.getElem?_set]
 by_cases h:p=r
 ·subst h
  rw [if_pos rfl,if_pos (by rw [zU_];exact h1)];rw [hr] at hp;exact hp
 ·rw [if_neg h,List.getElem?_set,if_pos rfl,if_pos h1]
theorem set_same {α:Type} {l:List α} {i:Nat} {x:α} (h:l[i]?=some x):l.set i x=l:=by
 apply List.ext_getElem?;intro t;rw [List.getElem?_set]
 by_cases ht:i=t
 ·subst ht
  rw [if_pos rfl,if_pos (zB_.1 h).1,h]
 ·rw [if_neg ht]
theorem mem_divR {d x:Rat} (h:x∈divR d row):∃ y∈row,x=y / d:=by
 unfold divR at h;obtain ⟨y,hy,e⟩:=List.mem_map.1 h;exact ⟨y,hy,e.symm⟩
theorem pre_mem {a:List Rat} (hr:M[r]?=some a) (hp:M[p]?=some row) {b:List Rat} (hb:b∈preStep M r p k):b∈M∨b=divR (vf row k) row:=by
 obtain ⟨t,ht⟩:=List.mem_iff_getElem?.1 hb
 by_cases h1:t=r
 ·subst h1
  rw [pre_r hr hp] at ht;injection ht with ht;exact .inr ht.symm
 ·by_cases h2:t=p
  ·subst h2
   rw [pre_p hr hp (fun e=>h1 e.symm)] at ht;injection ht with ht;exact .inl (ht▸zC_ hr)
  ·rw [pre_off h1 h2] at ht
   exact .inl (zC_ ht)
theorem div_bd {B:Nat} (h:Bd B M) (hp:M[p]?=some row) (hk:k<row.length):∀ x∈divR (vf row k) row,qsz x+2≤2*B:=fun x hx=>by
 obtain ⟨y,hy,rfl⟩:=mem_divR hx;have h1:=h row (zC_ hp) y hy;have h2:=h.vf hp hk;have:=div_qsz y (vf row k);omega
theorem col_bd {N B:Nat} {a:List Rat} (h:Bd B M) (hw:∀ a∈M,a.length=N) (hr:M[r]?=some a) (hp:M[p]?=some row) (hk:k<N):Bd (4*B) (colStep M r p k):=by
 have hpl:=hw row (zC_ hp);have hd:=div_bd h hp (by rw [hpl];exact hk);intro b hb x hx;obtain ⟨t,ht⟩:=List.mem_iff_getElem?.1 hb;obtain ⟨c,hc,rfl⟩:=col_at hp ht;have hcm:=pre_mem hr hp (zC_ hc)
 by_cases h1:t=r
 ·rw [if_pos h1] at hx
  rcases hcm with h2 | rfl
  ·have:=h c h2 x hx;omega
  ·have:=hd x hx;omega
 ·rw [if_neg h1] at hx
  have hcM:c∈M:=by
   obtain ⟨s,hs,_⟩:=pre_src hr hp h1 hc;exact zC_ hs
  have hcl:=hw c hcM;obtain ⟨j,hj⟩:=List.mem_iff_getElem?.1 hx;have hjl:j<c.length:=by
   have:=(zB_.1 hj).1;rwa [subR_len (by rw [divR_len,hpl,hcl])] at this
  have hv:=subR_vf (f:=vf c k) (R:=divR (vf row k) row) (row:=c) hjl (by rw [divR_len,hpl,hcl]);rw [vf_at hj] at hv;rw [hv];obtain ⟨s,hs⟩:=List.mem_iff_getElem?.1 hcM;have b1:=h.vf hs hjl;have b2:=h.vf hs (show k<c.length by omega);have b3:=hd _ (zC_ (vf_get (l:=divR (vf row k) row) (show j<_ by rw [divR_len,hpl];omega)));have b4:=mul_qsz (vf c k) (vf (divR (vf row k) row) j);have b5:=sub_qsz (vf c j) (vf c k*vf (divR (vf row k) row) j);omega
theorem piv_zero {piv:List Nat} (E:Ech (vfs M) piv k) (hp:M[p]?=some row) (hl:piv.length≤p):∀ j,j<k→vf row j=0:=fun j hj=>E.rest p _ (vfs_get hp) hl j hj
theorem div_zero {d:Rat} {j:Nat} (h:vf row j=0) (hj:j<row.length):vf (divR d row) j=0:=by
 rw [divR_vf hj,h,Rat.div_def,Rat.zero_mul]
theorem redGo_none {s:Nat} {piv:List Nat} (h:piv.length<M.length) (hp:pivR M piv.length k=M.length):redGo (s+1) M piv k=redGo s M piv (k+1):=by
 rw [redGo,if_pos h,if_pos hp]
theorem redGo_some {s:Nat} {piv:List Nat} (h:piv.length<M.length) (hp:pivR M piv.length k=p) (hne:p≠M.length):redGo (s+1) M piv k=redGo s (colStep M piv.length p k) (piv++[k]) (k+1):=by
 subst hp;rw [redGo,if_pos h,if_neg hne]
theorem redGo_full {s:Nat} {piv:List Nat} (h:¬piv.length<M.length):redGo s M piv k=(M,piv):=by
 cases s with
 | zero=>rfl
 | succ s=>rw [redGo,if_neg h]
end
theorem pow4_le {k cols:Nat} (h:k≤cols) (c:Nat):4^k*c≤4^cols*c:=Nat.mul_le_mul_right _ (Nat.pow_le_pow_right (by decide) h)
end
section
open Go.ChangeShapes Go.WideShapes Go.ChangeAt Go.RowKit
attribute [local go_sem ↓] execOp_call_val
attribute [local go_sem] callVal_func setCell_drewN alloc_drewN
theorem Qu.away {w:World} {base:Nat} {v:Value} {xs:List Value} (h:Qu w base v xs) {q:Addr} (hq:q.block<base) (u:Value):Qu (w.setCell q u) base v xs:=by
 obtain ⟨g,off,cap,h1,h2,h3,h4,h5,h6,h7⟩:=h.ex;have hb:Below q.block w (w.setCell q u):=(Below.refl _ w).setCell lR u;have hc:∀ j,(w.setCell q u).cell? ⟨g,off+j,none⟩=w.cell? ⟨g,off+j,none⟩:=fun j=>World.cell?_setCell_other _ _ _ _ (fun e=>by subst e;simp at hq;omega);have hfz:∀ j,(w.setCell q u).frozen? ⟨g,off+j,none⟩=w.frozen? ⟨g,off+j,none⟩:=fun j=>by
  obtain ⟨qb,qo,qs⟩:=q;cases qs with
  | none=>exact World.frozen?_setCells qb [u] qo w _
  | some s=>simp
 exact ⟨g,off,cap,h1,h2,zJ_ h3 hb.size,h4,h5,fun j hj=>by rw [hc,hfz];exact h6 j hj,fun j x hx=>by rw [hc];exact h7 j x hx⟩
def natJ (l:List Nat):List Int:=l.map fun (v:Nat)=>(v:Int)
theorem infoIn:(Tryz.prog.info? 3).map (fun i=>(i.zero,i.size,i.bytes))=some (some (.int .i64 0),1,8):=by kernel_rfl
def edC (p:Nat×Nat):List Value:=[.int .i64 p.1,.int .i64 p.2]
def RdE (w:World) (B:Nat) (A:Option Addr) (n:Nat) (es:List (Nat×Nat)):Prop:=es.length=n∧Rd w B 2 A n (es.flatMap edC)
theorem RdE.below {w w':World} {B B' n:Nat} {A:Option Addr} {xs:List (Nat×Nat)} (h:RdE w B A n xs) (hb:Below B' w w') (hB:B≤B'):RdE w' B A n xs:=⟨h.1,h.2.below hb hB⟩
theorem RdE.more {w:World} {B B' n:Nat} {A:Option Addr} {xs:List (Nat×Nat)} (h:RdE w B A n xs) (hB:B≤B'):RdE w B' A n xs:=⟨h.1,h.2.more hB⟩
theorem RdE.form {w:World} {B n:Nat} {A:Option Addr} {xs:List (Nat×Nat)} (h:RdE w B A n xs) (h0:0<n):∃ b off,A=some ⟨b,off,none⟩∧b<B:=by
 obtain ⟨b,off,e,hlt,_⟩:=h.2.2 h0;exact ⟨b,off,e,hlt⟩
theorem RdE.at_ {w:World} {B n:Nat} {b off:Nat} {xs:List (Nat×Nat)} (h:RdE w B (some ⟨b,off,none⟩) n xs) {i:Nat} {x:Nat×Nat} (hx:xs[i]?=some x) :
    w.cell? ⟨b,off+i*2,none⟩=some (.int .i64 x.1)∧w.cell? ⟨b,off+i*2+1,none⟩=some (.int .i64 x.2):=by
 have hl:i<xs.length:=(zB_.1 hx).1;have h1:=h.1;obtain ⟨b',off',e,_,hc⟩:=h.2.2 (by omega);injection e with e;injection e with e1 e2;subst e1;subst e2;have hf:=fun k hk=>flat_at (el:=edC) (sz:=2) (fun _=>rfl) xs i x hx k hk;exact ⟨hc _ _ (hf 0 (by omega)),by rw [Nat.add_assoc];exact hc _ _ (hf 1 (by omega))⟩
theorem pgo_skip {n i:Nat} {es:List (Nat×Nat)} {out:List Int} {m:Int} (hi:i<n) (h:0≤out.getD i 0):pgo n es (n-i) i (out,m)=pgo n es (n-(i+1)) (i+1) (out,m):=by
 obtain ⟨k,hk⟩:∃ k,n-i=k+1:=⟨n-i-1,by omega⟩;rw [hk,show n-(i+1)=k from by omega];show (if 0≤out.getD i 0 then _ else _)=_;rw [if_pos h]
theorem pgo_take {n i:Nat} {es:List (Nat×Nat)} {out:List Int} {m:Int} (hi:i<n) (h:¬0≤out.getD i 0):pgo n es (n-i) i (out,m)=pgo n es (n-(i+1)) (i+1) (pbfs m es (n+1) (out.set i m) [i],m+1):=by
 obtain ⟨k,hk⟩:∃ k,n-i=k+1:=⟨n-i-1,by omega⟩;rw [hk,show n-(i+1)=k from by omega];show (if 0≤out.getD i 0 then _ else _)=_;rw [if_neg h]
theorem pbfs_nil {m:Int} {es:List (Nat×Nat)} {f:Nat} {out:List Int}:pbfs m es f out []=out:=by cases f<;>rfl
theorem pbfs_on {m:Int} {es:List (Nat×Nat)} {f u:Nat} {out:List Int} {q:List Nat} (hf:0<f):pbfs m es f out (u::q)=pbfs m es (f-1) (pscan u m es (out,q)).1 (pscan u m es (out,q)).2:=by
 obtain ⟨k,rfl⟩:∃ k,f=k+1:=⟨f-1,by omega⟩;rfl
theorem pscan_cons {u:Nat} {m:Int} {es:List (Nat×Nat)} {k:Nat} {x:Nat×Nat} {s:List Int×List Nat} (h:es[k]?=some x):pscan u m (es.drop k) s=pscan u m (es.drop (k+1)) (pstep u m s x):=by
 rw [drop_cons h];rfl
theorem set_get {l:List Int} {g i:Nat} {w:World} (h:Blk w g 3 (ints l).toArray) (hi:i<l.length):w.cell? ⟨g,i,none⟩=some (.int .i64 (l.getD i 0)):=by
 rw [h.cell,List.getElem?_toArray];unfold ints;rw [zM_,zD_,zA_ hi];rfl
theorem set_ints {l:List Int} {g i:Nat} {w:World} (h:Blk w g 3 (ints l).toArray) (v:Int):Blk (w.setCell ⟨g,i,none⟩ (.int .i64 v)) g 3 (ints (l.set i v)).toArray:=by
 have h:=h.set_ i (.int .i64 v);rw [show (ints l).toArray.setIfInBounds i (.int .i64 v)=(ints (l.set i v)).toArray from by unfold ints;rw [List.setIfInBounds_toArray,List.map_set]] at h;exact h
theorem natJ_snoc (q:List Nat) (a:Nat):ints (natJ q)++[Value.int .i64 (a:Int)]=ints (natJ (q++[a])):=by
 unfold ints natJ;rw [List.map_append,List.map_append];rfl
def PartsP (n:Nat) (es:List (Nat×Nat)) (w:World) (e:Ending) (w':World):Prop:=
 Below w.heap.size w w'∧∃ g:Nat,e=.returned (.slice (some ⟨g,0,none⟩) n n)∧w.heap.size≤g∧Blk w' g 3 (ints (partsR n es)).toArray
theorem partsP_eq (n:Nat) (es:List (Nat×Nat)) (w:World) (e:Ending) (w':World) (h:Below w.heap.size w w'∧∃ g:Nat,e=.returned (.slice (some ⟨g,0,none⟩) n n)∧w.heap.size≤g∧Blk w' g 3 (ints (partsR n es)).toArray):PartsP n es w e w':=h
theorem parts_any (A:Option Addr) (c n:Nat) (es:List (Nat×Nat)) (w:World) (hE:RdE w w.heap.size A es.length es) (ok:∀ x∈es,x.1<n∧x.2<n) (hn:n≤1000) (he:es.length≤1000) :
    Calls Tryz.prog 133 #[.int .i64 n,.slice A es.length c,.int .i64 (-1)] w (PartsP n es w):=by
 have HE:=lH hE;have HOK:=lH ok;have HP:=lH (partsP_eq n es w);clear hE ok;obtain ⟨i0,hi0,hi1,hi2,hi3⟩:=info_parts infoIn;have HI0:=lH hi0;have HI1:=lH hi1;have HI2:=lH hi2;have HI3:Hid (i0.bytes≤16):=lH (by rw [hi3];decide);clear hi0 hi1 hi2 hi3;have HB1:Hid (Below w.heap.size w (w.alloc (.cells #[.int .i64 (-1)] 3))):=lH (bA);have hm1:(w.alloc (.cells #[.int .i64 (-1)] 3)).cell? ⟨w.heap.size,0,none⟩=some (.int .i64 (-1)):=(Blk.new w 3 #[.int .i64 (-1)]).cell 0;go_enter Tryz.func133,Tryz.ntmps133
 generalize hW1:w.alloc (.cells #[.int .i64 (-1)] 3)=w1 at *
 go_wp2_with fail
 refine (repeat_int (-1) w.heap.size n w1 hm1 hn).mono ?_;rintro e w2 ⟨g,rfl,hg,hblk,k2⟩;have HB2:=lH (HB1.o.tm k2);have HG2:Hid (Blk w2 g 3 (ints (List.replicate n (-1))).toArray):=lH (by unfold ints;rw [List.map_replicate];exact hblk);have hwg:w.heap.size≤g:=zI_ HB1.o.size hg;clear hblk k2 hm1 hW1 hg HB1
 go_wp2_with fail
 go_loopw [8,19] (fun v8 v19 wr=>∃ (i:Nat) (out:List Int) (m:Int),i≤n∧v19=.int .i64 i∧v8=.int .i64 m∧pgo n es (n-i) i (out,m)=pgo n es n 0 (List.replicate n (-1),0)∧Ps n m out []∧0≤m∧m≤i∧Below w.heap.size w wr∧Blk wr g 3 (ints out).toArray) (fun _ v19 _=>n-(intOf v19).toNat)
 case atStart=>exact ⟨0,List.replicate n (-1),0,by omega,rfl,rfl,rfl,⟨by simp,fun _ h=>(by cases h),fun x hx=>(by rw [List.eq_of_mem_replicate hx];omega)⟩,by omega,by omega,HB2.o,HG2.o⟩
 case round=>
  clear HB2 HG2;obtain ⟨i,out,m,hi,rfl,rfl,hf,hps,hm0,hmi,hb,hblk⟩:=hrel;have HF:=lH hf;have HPS:=lH hps;have HB:=lH hb;have HG:=lH hblk;have hol:=hps.len;have hgl:=hblk.lt;clear hf hps hb hblk
  by_cases hlt:i<n
  ·have hcell:=set_get HG.o (by rw [hol];exact hlt)
   have hfz:=HG.o.frozen i;have hiI:(i:Int)<(n:Int):=by omega
   by_cases hz:0≤out.getD i 0
   ·have HZ:=lH hz
    have HGE:decide (out.getD i 0<0)=false:=decide_eq_false (by omega);generalize out.getD i 0=z at hcell hz HGE;have HOL:=lH hol;clear hol HGE
    go_wp2_with fail
    go_roundw
    case rel=>exact ⟨i+1,out,m,by omega,by go_num,rfl,by rw [←HF.o,pgo_skip hlt HZ.o],HPS.o,hm0,by omega,HB.o,HG.o⟩
    case measure=>simp [intOf];omega
   ·have HZ:=lH hz
    have HSETL:Hid (i<out.length):=lH (by rw [hol];exact hlt);have HOL:=lH hol;have HNEG:Hid (out.getD i 0<0):=lH (by omega);generalize out.getD i 0=z at hcell hz;have hz':z<0:=by omega
    have HB3:=lH (HB.o.setCell (p:=⟨g,i,none⟩) (by simp;omega) (.int .i64 m));have HG3:=lH (set_ints (i:=i) HG.o m);clear hz hol
    go_wp2_with fail
    have HB4:=lH (HB3.o.alloc HB3.o.size (.cells #[.int .i64 i] 3));have HG4:=lH (HG3.o.alloc (.cells #[.int .i64 i] 3));have HQ4:Hid (Qu ((wr.setCell ⟨g,i,none⟩ (.int .i64 m)).alloc (.cells #[.int .i64 i] 3)) (g+1) (.slice (some ⟨wr.heap.size,0,none⟩) 1 1) (ints (natJ [i]))):=lH (by
     have hb:=Blk.new (wr.setCell ⟨g,i,none⟩ (.int .i64 m)) 3 #[.int .i64 i];have hsz:(wr.setCell ⟨g,i,none⟩ (.int .i64 m)).heap.size=wr.heap.size:=by simp
     rw [hsz] at hb;refine ⟨wr.heap.size,0,1,rfl,by omega,hb.lt,lR,by simp only [maxLen];omega,fun j hj=>?_,fun j u hu=>?_⟩
     ·have hj0:j=0:=by omega
      subst hj0;exact ⟨by rw [hb.cell 0];rfl,hb.frozen 0⟩
     ·have hj0:j=0:=by have:=(zB_.1 hu).1;simpa [ints,natJ] using this
      subst hj0;rw [Nat.add_zero,hb.cell 0];simpa [ints,natJ] using hu)
    have hs4:g+1≤((wr.setCell ⟨g,i,none⟩ (.int .i64 m)).alloc (.cells #[.int .i64 i] 3)).heap.size:=by simp;omega
    have HPS4:Hid (Ps n m (out.set i m) [i]):=lH ⟨by simp [HOL.o],fun v hv=>by rw [List.mem_singleton.1 hv];exact hlt,fun x hx=>by
     rcases List.mem_or_eq_of_mem_set hx with hx | rfl
     ·exact HPS.o.bd x hx
     ·omega⟩
    have HM4:Hid (([i]:List Nat).length+negs (out.set i m)≤n+1):=lH (by
     have h1:=negs_set out i m hm0 HSETL.o HNEG.o;have h2:=negs_le out;have h3:=HOL.o;simp;omega)
    generalize hW4:(wr.setCell ⟨g,i,none⟩ (.int .i64 m)).alloc (.cells #[.int .i64 i] 3)=w4 at *;obtain ⟨R0,hR0⟩:∃ R0,R0=pbfs m es (n+1) (out.set i m) [i]:=⟨_,rfl⟩;have HR0:=lH hR0;clear hW4 hcell hfz HB3 HG3 HSETL HNEG hR0
    go_loopg [10] (n+1) (fun f v10 wr=>∃ (out:List Int) (q:List Nat),Ps n m out q∧pbfs m es f out q=R0∧q.length+negs out≤f∧f≤n+1∧Below w.heap.size w wr∧Blk wr g 3 (ints out).toArray∧Qu wr (g+1) v10 (ints (natJ q))∧g+1≤wr.heap.size)
    case atStart=>exact ⟨out.set i m,[i],HPS4.o,HR0.o.symm,HM4.o,by omega,HB4.o,HG4.o,HQ4.o,hs4⟩
    case round=>
     clear HB4 HG4 HQ4 HPS4 HM4 hs4 hgl HPS HG HB HOL;obtain ⟨out2,q2,hps,hfun,hmm,hgn,hb,hblk,hq,hs⟩:=hrel;have HPS:=lH hps;have HFUN:=lH hfun;have HB:=lH hb;have HG:=lH hblk;have HMM:=lH hmm;obtain ⟨qb,qo,qc,rfl,hqg,hqlt,hqc,hqm,hqh,hqx⟩:=hq.ex;have hql:(ints (natJ q2)).length=q2.length:=by simp [ints,natJ]
     rw [hql] at hqc hq ⊢;have HQ:=lH hq;clear hps hb hblk hq hfun hmm hql;cases q2 with
     | nil=>
      clear hqx hqh;simp only [zW_] at *
      go_wp2_with fail
      go_roundw
      case rel=>exact ⟨i+1,out2,m+1,by omega,by go_num,by go_num,by rw [←HF.o,pgo_take hlt (by have:=HZ.o;omega),←HR0.o,←HFUN.o,pbfs_nil],⟨HPS.o.len,HPS.o.lt,fun x hx=>by have:=HPS.o.bd x hx;omega⟩,by omega,by omega,HB.o,HG.o⟩
      case measure=>simp [intOf];omega
     | cons u q=>
      have hul:=HPS.o.lt u (List.mem_cons_self ..);have hq0:=hqx 0 (.int .i64 u) rfl;rw [Nat.add_zero] at hq0;have hqt:=HQ.o;rw [show ints (natJ (u::q))=.int .i64 u::ints (natJ q) from rfl] at hqt;have hqt:=hqt.tail;rw [zV_,Nat.add_sub_cancel] at hqt;have hqlI:(0:Int)<((q.length+1:Nat):Int):=by omega
      have hq1:1≤q.length+1:=by omega
      have hqd:decide (0<q.length+1)=true:=by simp
      have hsub:q.length+1-1=q.length:=by omega
      have hqc1:1≤qc:=by rw [zV_] at hqc;omega
      have hqc2:q.length+1≤qc:=by rw [zV_] at hqc;exact hqc
      generalize hqa:(if qc=1 then some (⟨qb,qo,none⟩:Addr) else some ⟨qb,qo+1,none⟩)=qa at hqt;have HQT:=lH hqt;have hln:(u::q).length=q.length+1:=rfl;rw [hln] at hqc ⊢;have HLQ:=lH hln;clear hqt hqx hqh hln;generalize hql:q.length+1=ql at *;have HQL:=lH hql;clear hql
      go_wp2_with fail
      have hwo:=HB.o.size;obtain ⟨S0,hS0⟩:∃ S0,S0=pscan u m es (out2,q):=⟨_,rfl⟩;have HS0:=lH hS0;obtain ⟨C0,hC0⟩:∃ C0,C0=q.length+negs out2:=⟨_,rfl⟩;have HC0:=lH hC0;have HPSq:Hid (Ps n m out2 q):=lH ⟨HPS.o.len,fun v hv=>HPS.o.lt v (List.mem_cons_of_mem _ hv),HPS.o.bd⟩;have HFUN2:Hid (0<gk→pbfs m es (gk-1) S0.1 S0.2=R0):=lH (fun h=>by rw [←HFUN.o,pbfs_on h,←HS0.o]);have HMM2:Hid (1+C0≤gk):=lH (by have:=HMM.o;rw [zV_] at this;omega);clear HFUN HMM hS0 hC0 HPS
      go_loopw [10,43] (fun v10 v43 wr=>∃ (k:Nat) (out:List Int) (q:List Nat),k≤es.length∧v43=.int .i64 k∧Ps n m out q∧pscan u m (es.drop k) (out,q)=S0∧q.length+negs out=C0∧Below w.heap.size w wr∧Blk wr g 3 (ints out).toArray∧Qu wr (g+1) v10 (ints (natJ q))∧g+1≤wr.heap.size) (fun _ v43 _=>es.length-(intOf v43).toNat)
      case atStart=>exact ⟨0,out2,q,by omega,rfl,HPSq.o,HS0.o.symm,HC0.o.symm,HB.o,HG.o,by have h:=HQT.o;rw [←hqa] at h;first | exact h | (rw [hqa] at h;exact h),hs⟩
      case round=>
       clear HPSq HB HG HQT HQ;obtain ⟨k,out3,q3,hk,rfl,hps,hsc,hcc,hb,hblk,hq3,hs3⟩:=hrel;have HPS:=lH hps;have HSC:=lH hsc;have HCC:=lH hcc;have HB:=lH hb;have HG:=lH hblk;have HQ:=lH hq3;have hol3:=lH hps.len;clear hps hsc hcc hb hblk hq3
       by_cases hlt3:k<es.length
       ·obtain ⟨⟨xa,xb⟩,hx⟩:∃ x,es[k]?=some x:=⟨_,zA_ hlt3⟩
        have hE:=(HE.o.below HB.o lR).more HB.o.size;obtain ⟨eb,eo,heA,heb⟩:=hE.form (by omega);subst heA;obtain ⟨e0,e1⟩:=hE.at_ hx;dsimp only at e0 e1;obtain ⟨hxa,hxb⟩:=HOK.o _ (zC_ hx);dsimp only at hxa hxb;have hkI:(k:Int)<(es.length:Int):=by omega
        have hkm:((k:Int) == -1)=false:=by simp
        have HST:=lH (pstep_ok (u:=u) (s:=(out3,q3)) hm0 (HOK.o _ (zC_ hx)) HPS.o);have HSC2:Hid (pscan u m (es.drop (k+1)) (pstep u m (out3,q3) (xa,xb))=S0):=lH (by rw [←HSC.o,pscan_cons hx]);have HBA:=lH (HB.o.alloc HB.o.size (.cells #[.int .i64 xa,.int .i64 xb] 166));have HGA:=lH (HG.o.alloc (.cells #[.int .i64 xa,.int .i64 xb] 166));have HQA:=lH (HQ.o.up (bR.alloc lR (.cells #[.int .i64 xa,.int .i64 xb] 166)));have hbox:=Blk.new wr 166 #[.int .i64 xa,.int .i64 xb];have b0:=hbox.cell 0;have b1:=hbox.cell 1;have hgl3:g<wr.heap.size:=by omega
        clear hE hx hbox;unfold pstep at HST HSC2
        by_cases hh:xa=u∨xb=u
        ·by_cases ha:xa=u
         ·subst ha
          have hna:((xa:Int) != (xa:Int))=false:=by simp
          have ho:xa+xb-xa=xb:=by omega
          dsimp only at HST HSC2;rw [ho] at HST HSC2;have hby:(wr.alloc (.cells #[.int .i64 xa,.int .i64 xb] 166)).cell? ⟨g,xb,none⟩=some (.int .i64 (out3.getD xb 0)):=set_get HGA.o (by rw [hol3.out];omega);have hoI:(xb:Int)<(n:Int):=by omega
          have hfz:=HGA.o.frozen xb
          by_cases hz:out3.getD xb 0<0
          ·have HZ:=lH hz
           rw [if_pos ⟨hh,hz⟩] at HST HSC2;generalize out3.getD xb 0=z at hby hz;have hlen3:(ints (natJ q3)).length≤1000000:=by
            have h1:=HCC.o;have h2:=HMM2.o;simp only [ints,natJ,zG_];omega
           have HB7:=lH ((HB.o.setCell (p:=⟨g,xb,none⟩) (by simp;omega) (.int .i64 m)).alloc (by simp;omega) (.cells #[.int .i64 xa,.int .i64 xb] 166));have HG7:=lH ((set_ints (i:=xb) HG.o m).alloc (.cells #[.int .i64 xa,.int .i64 xb] 166));have HQ7:=lH ((HQ.o.away (q:=⟨g,xb,none⟩) (by simp) (.int .i64 m)).up (bR.alloc lR (.cells #[.int .i64 xa,.int .i64 xb] 166)));generalize hw7:(wr.setCell ⟨g,xb,none⟩ (.int .i64 m)).alloc (.cells #[.int .i64 xa,.int .i64 xb] 166)=w7 at HB7 HG7 HQ7;have hs7:wr.heap.size+1=w7.heap.size:=by rw [←hw7];simp
           have HB8:Hid (Below w.heap.size w (((wr.setCell ⟨g,xb,none⟩ (.int .i64 m)).alloc (.cells #[.int .i64 xa,.int .i64 xb] 166)).alloc (.cells #[.int .i64 ((xa:Int)+xb-xa)] 3))):=lH (by rw [hw7];exact HB7.o.alloc HB7.o.size (.cells #[.int .i64 ((xa:Int)+xb-xa)] 3));have HG8:Hid (Blk (((wr.setCell ⟨g,xb,none⟩ (.int .i64 m)).alloc (.cells #[.int .i64 xa,.int .i64 xb] 166)).alloc (.cells #[.int .i64 ((xa:Int)+xb-xa)] 3)) g 3 (ints (out3.set xb m)).toArray):=lH (by rw [hw7];exact HG7.o.alloc (.cells #[.int .i64 ((xa:Int)+xb-xa)] 3));have HQ8:Hid (Qu (((wr.setCell ⟨g,xb,none⟩ (.int .i64 m)).alloc (.cells #[.int .i64 xa,.int .i64 xb] 166)).alloc (.cells #[.int .i64 ((xa:Int)+xb-xa)] 3)) (g+1) u10 (ints (natJ q3))):=lH (by rw [hw7];exact HQ7.o.up (bR.alloc lR (.cells #[.int .i64 ((xa:Int)+xb-xa)] 3)))
           have HC8:Hid ((((wr.setCell ⟨g,xb,none⟩ (.int .i64 m)).alloc (.cells #[.int .i64 xa,.int .i64 xb] 166)).alloc (.cells #[.int .i64 ((xa:Int)+xb-xa)] 3)).cell? ⟨wr.heap.size+1,0,none⟩=some (.int .i64 ((xa:Int)+xb-xa))):=lH (by
            rw [hw7];have h:=(Blk.new w7 3 #[.int .i64 ((xa:Int)+xb-xa)]).cell 0;rw [←hs7] at h;simpa using h)
           have hs8:g+1≤(((wr.setCell ⟨g,xb,none⟩ (.int .i64 m)).alloc (.cells #[.int .i64 xa,.int .i64 xb] 166)).alloc (.cells #[.int .i64 ((xa:Int)+xb-xa)] 3)).heap.size:=by simp;omega
           clear hs7 hw7 HB7 HG7 HQ7
           go_wp2_with (at_builtin;refine wpList_append_q _ rfl (.tmp 79) (.tmp 81) 30 rfl (g+1) 3 i0 (.int .i64 0) Tryz.underlying30 HI0.o HI1.o HI2.o HI3.o rfl u10 _ rfl HQ8.o ⟨wr.heap.size+1,0,none⟩ 1 _ rfl HC8.o rfl rfl hlen3 hs8 ?_;intro v' w9 hq9 hb9)
           go_roundw
           case rel=>
            have hq:ints (natJ q3)++[Value.int .i64 ((xa:Int)+xb-xa)]=ints (natJ (q3++[xb])):=by
             first | exact natJ_snoc _ _ | (rw [←natJ_snoc];congr 1<;>first | rfl | (congr 2;omega))
            rw [hq] at hq9;have h1:=HST.o;exact ⟨k+1,_,_,by omega,by go_num,h1.1,HSC2.o,h1.2.1.trans HCC.o,HB8.o.trans (hb9.mono (by omega)),HG8.o.below hb9 (by omega),hq9,zI_ hs8 hb9.size⟩
           case measure=>simp [intOf];omega
          ·rw [if_neg (fun h=>hz h.2)] at HST HSC2
           have hzz:decide (out3.getD xb 0<0)=false:=decide_eq_false hz;generalize out3.getD xb 0=z at hby hz hzz
           go_wp2_with fail
           go_roundw
           case rel=>exact ⟨k+1,out3,q3,by omega,by go_num,HPS.o,HSC2.o,HCC.o,HBA.o,HGA.o,HQA.o,by simp;omega⟩
           case measure=>simp [intOf];omega
         ·have hb:xb=u:=hh.resolve_left ha
          subst hb;have hna:((xa:Int) != (xb:Int))=true:=by simp;omega
          have hnb0:((xb:Int) != (xb:Int))=false:=by simp
          have ho:xa+xb-xb=xa:=by omega
          dsimp only at HST HSC2;rw [ho] at HST HSC2;have hby:(wr.alloc (.cells #[.int .i64 xa,.int .i64 xb] 166)).cell? ⟨g,xa,none⟩=some (.int .i64 (out3.getD xa 0)):=set_get HGA.o (by rw [hol3.out];omega);have hoI:(xa:Int)<(n:Int):=by omega
          have hfz:=HGA.o.frozen xa
          by_cases hz:out3.getD xa 0<0
          ·have HZ:=lH hz
           rw [if_pos ⟨hh,hz⟩] at HST HSC2;generalize out3.getD xa 0=z at hby hz;have hlen3:(ints (natJ q3)).length≤1000000:=by
            have h1:=HCC.o;have h2:=HMM2.o;simp only [ints,natJ,zG_];omega
           have HB7:=lH ((HB.o.setCell (p:=⟨g,xa,none⟩) (by simp;omega) (.int .i64 m)).alloc (by simp;omega) (.cells #[.int .i64 xa,.int .i64 xb] 166));have HG7:=lH ((set_ints (i:=xa) HG.o m).alloc (.cells #[.int .i64 xa,.int .i64 xb] 166));have HQ7:=lH ((HQ.o.away (q:=⟨g,xa,none⟩) (by simp) (.int .i64 m)).up (bR.alloc lR (.cells #[.int .i64 xa,.int .i64 xb] 166)));generalize hw7:(wr.setCell ⟨g,xa,none⟩ (.int .i64 m)).alloc (.cells #[.int .i64 xa,.int .i64 xb] 166)=w7 at HB7 HG7 HQ7;have hs7:wr.heap.size+1=w7.heap.size:=by rw [←hw7];simp
           have HB8:Hid (Below w.heap.size w (((wr.setCell ⟨g,xa,none⟩ (.int .i64 m)).alloc (.cells #[.int .i64 xa,.int .i64 xb] 166)).alloc (.cells #[.int .i64 (xa:Int)] 3))):=lH (by rw [hw7];exact HB7.o.alloc HB7.o.size (.cells #[.int .i64 (xa:Int)] 3));have HG8:Hid (Blk (((wr.setCell ⟨g,xa,none⟩ (.int .i64 m)).alloc (.cells #[.int .i64 xa,.int .i64 xb] 166)).alloc (.cells #[.int .i64 (xa:Int)] 3)) g 3 (ints (out3.set xa m)).toArray):=lH (by rw [hw7];exact HG7.o.alloc (.cells #[.int .i64 (xa:Int)] 3));have HQ8:Hid (Qu (((wr.setCell ⟨g,xa,none⟩ (.int .i64 m)).alloc (.cells #[.int .i64 xa,.int .i64 xb] 166)).alloc (.cells #[.int .i64 (xa:Int)] 3)) (g+1) u10 (ints (natJ q3))):=lH (by rw [hw7];exact HQ7.o.up (bR.alloc lR (.cells #[.int .i64 (xa:Int)] 3)))
           have HC8:Hid ((((wr.setCell ⟨g,xa,none⟩ (.int .i64 m)).alloc (.cells #[.int .i64 xa,.int .i64 xb] 166)).alloc (.cells #[.int .i64 (xa:Int)] 3)).cell? ⟨wr.heap.size+1,0,none⟩=some (.int .i64 (xa:Int))):=lH (by
            rw [hw7];have h:=(Blk.new w7 3 #[.int .i64 (xa:Int)]).cell 0;rw [←hs7] at h;simpa using h)
           have hs8:g+1≤(((wr.setCell ⟨g,xa,none⟩ (.int .i64 m)).alloc (.cells #[.int .i64 xa,.int .i64 xb] 166)).alloc (.cells #[.int .i64 (xa:Int)] 3)).heap.size:=by simp;omega
           clear hs7 hw7 HB7 HG7 HQ7
           go_wp2_with (at_builtin;refine wpList_append_q _ rfl (.tmp 79) (.tmp 81) 30 rfl (g+1) 3 i0 (.int .i64 0) Tryz.underlying30 HI0.o HI1.o HI2.o HI3.o rfl u10 _ rfl HQ8.o ⟨wr.heap.size+1,0,none⟩ 1 _ rfl HC8.o rfl rfl hlen3 hs8 ?_;intro v' w9 hq9 hb9)
           go_roundw
           case rel=>
            have hq:ints (natJ q3)++[Value.int .i64 (xa:Int)]=ints (natJ (q3++[xa])):=by
             first | exact natJ_snoc _ _ | (rw [←natJ_snoc];congr 1<;>first | rfl | (congr 2;omega))
            rw [hq] at hq9;have h1:=HST.o;exact ⟨k+1,_,_,by omega,by go_num,h1.1,HSC2.o,h1.2.1.trans HCC.o,HB8.o.trans (hb9.mono (by omega)),HG8.o.below hb9 (by omega),hq9,zI_ hs8 hb9.size⟩
           case measure=>simp [intOf];omega
          ·rw [if_neg (fun h=>hz h.2)] at HST HSC2
           have hzz:decide (out3.getD xa 0<0)=false:=decide_eq_false hz;generalize out3.getD xa 0=z at hby hz hzz
           go_wp2_with fail
           go_roundw
           case rel=>exact ⟨k+1,out3,q3,by omega,by go_num,HPS.o,HSC2.o,HCC.o,HBA.o,HGA.o,HQA.o,by simp;omega⟩
           case measure=>simp [intOf];omega
        ·have hna : ((xa : Int) != (u : Int)) = true := by have : xa ≠ u := fun h => hh (.inl h)
                                                           simp;omega
         have hnb : ((xb : Int) != (u : Int)) = true := by have : xb ≠ u := fun h => hh (.inr h)
                                                           simp;omega
         rw [if_neg (fun h=>hh h.1)] at HST HSC2
         go_wp2_with fail
         go_roundw
         case rel=>exact ⟨k+1,out3,q3,by omega,by go_num,HPS.o,HSC2.o,HCC.o,HBA.o,HGA.o,HQA.o,by simp;omega⟩
         case measure=>simp [intOf];omega
       ·have hkk:k=es.length:=by omega
        subst hkk
        go_wp2_with fail
        go_roundg (gk-1)
        case rel=>
         have hS:(out3,q3)=S0:=by rw [←HSC.o,List.drop_length];rfl
         exact ⟨out3,q3,HPS.o,by rw [←HFUN2.o (by have:=HMM2.o;omega),←hS],by have:=HMM2.o;have:=HCC.o;omega,by omega,HB.o,HG.o,HQ.o,hs3⟩
        case measure=>have:=HMM2.o;omega
  ·have hin:i=n:=by omega
   subst hin
   go_wp2_with fail
   go_ret;exact HP.o _ _ ⟨HB.o,g,rfl,hwg,by
    have h:=HG.o;have e:out=partsR i es:=by unfold partsR;rw [←HF.o,Nat.sub_self];rfl
    rw [e] at h;exact h⟩
theorem RdE.bm {w w':World} {n:Nat} {A:Option Addr} {l:List (Nat×Nat)} (h:RdE w w.heap.size A n l) (g:Below w.heap.size w w'):RdE w' w'.heap.size A n l:=(h.below g lR).more g.size
end
end Go.Proofs.YthgdchffeigkbaaGreatDoor
