import Derived.Test.YthgdchffeigkbaaGreatDoorU35
import Derived.Test.YthgdchffeigkbaaGreatDoorU36
set_option linter.unusedVariables false
set_option linter.unusedSimpArgs false
namespace Go.Proofs.YthgdchffeigkbaaGreatDoor
section
open Go.ChangeShapes Go.WideShapes Go.ChangeAt Go.RowKit
theorem dotR_sum {q al:List Rat} {n:Nat} (h1:q.length=n) (h2:al.length=n):dotR q al=sumTo n fun i=>vf q i*vf al i:=by
 have key:∀ k,k≤n→sumR ((List.zipWith (·*·) q al).take k)=sumTo k fun i=>vf q i*vf al i:=fun k=>by
  induction k with
  | zero=>intro _;rfl
  | succ k ih=>
   intro hk;rw [dotR_step (vf_get (i:=k) (by omega)) (vf_get (l:=al) (i:=k) (by omega)),ih (by omega)];rfl
 have:=key n lR;rw [List.take_of_length_le (by rw [List.length_zipWith];omega)] at this;exact this
end
section
def yF (x:Net) (ms:List Mi):Fn:=fun k=>match ms[k]? with | some m=>qOf m.txt-(formR x m).2 | none=>0
def lsOf (x:Net) (ms:List Mi):Ls:=⟨(freeL x).length,ms.length,fun k=>vf ((rowsR x ms).getD k []),wtF ms,yF x ms⟩
section
variable {x:Net} {ms:List Mi}
theorem ls_w {k:Nat} {m:Mi} (h:ms[k]?=some m):(lsOf x ms).w k=(m.wt:Rat):=wtF_at h
theorem ls_y {k:Nat} {m:Mi} (h:ms[k]?=some m):(lsOf x ms).y k=qOf m.txt-(formR x m).2:=by
 show yF x ms k=_;unfold yF;rw [h]
theorem ls_get {k:Nat} (h:k<(lsOf x ms).K):∃ m,ms[k]?=some m:=⟨_,zA_ h⟩
theorem gain_row {n i:Nat} {M:List (List Rat)} (hi:i<n):∃ r,(gainR n M ms)[i]?=some r∧r.length=n∧∀ j,j<n→vf r j=gSum M ms M.length i j:=
 ⟨_,by unfold gainR;rw [List.getElem?_map,List.getElem?_range hi];rfl,by simp,fun j hj=>vf_at (by rw [List.getElem?_map,List.getElem?_range hj];rfl)⟩
theorem gain_wid {n:Nat} {M:List (List Rat)}:∀ a∈gainR n M ms,a.length=(gainR n M ms).length:=by
 rw [gainR_len];intro a ha;unfold gainR at ha;obtain ⟨i,hi,rfl⟩:=List.mem_map.1 ha;simp
theorem rows_len:(rowsR x ms).length=ms.length:=by unfold rowsR;rw [List.length_map]
theorem ls_G (i j:Nat):gSum (rowsR x ms) ms (rowsR x ms).length i j=(lsOf x ms).G i j:=by
 rw [rows_len];rfl
theorem gain_dot {i:Nat} {r:List Rat} (hr:(gainR (freeL x).length (rowsR x ms) ms)[i]?=some r) (c:Fn):dotn (freeL x).length (vf r) c=dotn (lsOf x ms).n ((lsOf x ms).G i) c:=by
 have hi:i<(freeL x).length:=by have:=(zB_.1 hr).1;rwa [gainR_len] at this
 obtain ⟨r',hr',-,hv⟩:=gain_row (M:=rowsR x ms) (ms:=ms) hi;rw [hr] at hr';injection hr' with hr';subst hr';exact dotn_congr (fun j hj=>by rw [hv j hj,ls_G]) fun _ _=>rfl
theorem inv_row {i:Nat} (hi:i<(freeL x).length):((invL (gainR (freeL x).length (rowsR x ms) ms)).getD i []).length=(freeL x).length:=by
 have h:=invL_len (M:=gainR (freeL x).length (rowsR x ms) ms) gain_wid;rw [gainR_len] at h;obtain ⟨r,hr⟩:∃ r,(invL (gainR (freeL x).length (rowsR x ms) ms))[i]?=some r:=⟨_,zA_ (by rw [h.1];exact hi)⟩;rw [zD_,hr];exact h.2 r (zC_ hr)
theorem est_mul {i:Nat} (hi:i<(freeL x).length):estD x ms i=invMul (gainR (freeL x).length (rowsR x ms) ms) (vf (rgtR (freeL x).length x ms ms.length)) i:=by
 unfold estD invMul;rw [gainR_len];exact dotR_sum (inv_row hi) rgtR_len
theorem rgt_rt {i:Nat} (hi:i<(freeL x).length):vf (rgtR (freeL x).length x ms ms.length) i=(lsOf x ms).rt i:=by
 rw [rgtR_vf hi];unfold Ls.rt;refine sumTo_congr fun t ht=>?_;obtain ⟨m,hm⟩:=ls_get (x:=x) ht;rw [ls_w hm,ls_y hm,devF_at hm];rfl
theorem est_sol (hr:EReg x ms):(lsOf x ms).Sol (estD x ms):=fun i hi=>by
 obtain ⟨r,hr',hl,hv⟩:=gain_row (M:=rowsR x ms) (ms:=ms) (n:=(freeL x).length) hi;have h1:=inv_mul gain_wid hr (vf (rgtR (freeL x).length x ms ms.length)) hr';rw [gainR_len] at h1;rw [←gain_dot hr',dotn_congr (fun _ _=>rfl) (fun j hj=>est_mul hj),h1];exact rgt_rt hi
theorem est_one (hr:EReg x ms) {a:Fn} (ha:(lsOf x ms).Sol a):∀ j,j<(freeL x).length→estD x ms j=a j:=fun j hj=>by
 have h:=reg_one (M:=gainR (freeL x).length (rowsR x ms) ms) gain_wid hr (x:=estD x ms) (y:=a) (fun i r hr'=>by
  have hi:i<(freeL x).length:=by have:=(zB_.1 hr').1;rwa [gainR_len] at this
  rw [gainR_len,gain_dot hr',gain_dot hr',est_sol hr i hi,ha i hi])
 rw [gainR_len] at h;exact h j hj
end
theorem pick_at {p:Nat→Bool}:∀ {n i j:Nat},(pick p n)[i]?=some j→p j=true∧j<n∧cnt p j=i
 | 0,i,j,h=>by simp [pick] at h
 | n+1,i,j,h=>by
  rw [pick_succ] at h
  by_cases hi:i<(pick p n).length
  ·rw [List.getElem?_append_left hi] at h
   obtain ⟨h1,h2,h3⟩:=pick_at h;exact ⟨h1,by omega,h3⟩
  ·rw [List.getElem?_append_right (by omega)] at h
   cases hp:p n with
   | false=>rw [hp] at h;simp at h
   | true=>
    rw [hp,if_pos rfl] at h;have hl:=(zB_.1 h).1;simp only [List.length_singleton] at hl;have h0:i-(pick p n).length=0:=by omega
    rw [h0] at h;simp at h;subst h;rw [pick_len] at hi h0;exact ⟨hp,Nat.lt_succ_self _,by omega⟩
theorem pick_of {p:Nat→Bool} {j:Nat} (hp:p j=true):∀ {n:Nat},j<n→(pick p n)[cnt p j]?=some j
 | 0,h=>by omega
 | n+1,h=>by
  rw [pick_succ]
  by_cases hj:j<n
  ·have:=pick_of hp hj
   rw [List.getElem?_append_left (zB_.1 this).1];exact this
  ·have:j=n:=by omega
   subst this;rw [List.getElem?_append_right (by rw [pick_len];exact lR),pick_len,Nat.sub_self,if_pos hp];rfl
theorem lay_at {p:Nat→Bool} {n:Nat} {d:Fn}:∀ {k:Nat},k≤cnt p n→∀ j,j<n→vf (layL (pick p n) d (zrs n) k) j=if p j=true∧cnt p j<k then d (cnt p j) else 0
 | 0,_,j,_=>by rw [if_neg (by omega)];exact vf_zrs n j
 | k+1,hk,j,hj=>by
  have ih:=lay_at (d:=d) (p:=p) (n:=n) (k:=k) (by omega) j hj;unfold layL;obtain ⟨j0,h0⟩:∃ j0,(pick p n)[k]?=some j0:=⟨_,zA_ (by rw [pick_len];omega)⟩;obtain ⟨h1,h2,h3⟩:=pick_at h0;have e:(pick p n).getD k 0=j0:=by rw [zD_,h0];rfl
  rw [e,vf_set (by rw [layL_len];unfold zrs;rw [List.length_replicate];exact h2),ih]
  by_cases hjj:j=j0
  ·subst hjj
   rw [if_pos rfl,if_pos ⟨h1,by omega⟩,h3]
  ·rw [if_neg hjj]
   by_cases hp:p j=true
   ·have hne:cnt p j≠k:=fun e=>by
     have h4:=pick_of hp hj;rw [e,h0] at h4;injection h4 with h4;exact hjj h4.symm
    by_cases hlt:cnt p j<k
    ·rw [if_pos ⟨hp,hlt⟩,if_pos ⟨hp,by omega⟩]
    ·rw [if_neg (fun h=>hlt h.2),if_neg (fun h=>by omega)]
   ·rw [if_neg (fun h=>hp h.1),if_neg (fun h=>hp h.1)]
section
variable {x:Net} {ms:List Mi}
theorem est_len:(estR x ms).length=busN x:=by unfold estR;rw [layL_len];exact List.length_replicate
theorem lay_ext {d:Fn} {j:Nat} (hj:j<busN x):vf (layL (freeL x) d (zrs (busN x)) (freeL x).length) j=ext (freeB (islN x)) d j:=by
 have h:=lay_at (p:=freeB (islN x)) (d:=d) (n:=busN x) (k:=(freeL x).length) (Nat.le_of_eq (pick_len _ _)) j hj;unfold freeL at h ⊢;rw [h];unfold ext
 by_cases hp:freeB (islN x) j=true
 ·have h2:=(zB_.1 (pick_of hp hj)).1
  rw [if_pos ⟨hp,h2⟩,if_pos hp]
 ·rw [if_neg (fun h=>hp h.1),if_neg hp]
theorem est_vf {j:Nat} (hj:j<busN x):vf (estR x ms) j=ext (freeB (islN x)) (estD x ms) j:=lay_ext hj
def frF (x:Net) (al:List Rat):Fn:=fun i=>vf al ((freeL x).getD i 0)
def Grd (x:Net) (al:List Rat):Prop:=al.length=busN x∧∀ j,j<busN x→freeB (islN x) j=false→vf al j=0
theorem Grd.ext {al:List Rat} (h:Grd x al) {j:Nat} (hj:j<busN x):vf al j=ext (freeB (islN x)) (frF x al) j:=by
 unfold Go.Proofs.YthgdchffeigkbaaGreatDoor.ext
 by_cases hp:freeB (islN x) j=true
 ·rw [if_pos hp]
  unfold frF freeL;rw [zD_,pick_of hp hj];rfl
 ·rw [if_neg hp]
  exact h.2 j hj (by simpa using hp)
theorem free_at {i:Nat} (hi:i<(freeL x).length):∃ j,(freeL x)[i]?=some j∧freeB (islN x) j=true∧j<busN x∧cnt (freeB (islN x)) j=i:=by
 obtain ⟨j,hj⟩:∃ j,(freeL x)[i]?=some j:=⟨_,zA_ hi⟩;exact ⟨j,hj,pick_at hj⟩
theorem est_grd:Grd x (estR x ms):=⟨est_len,fun j hj hf=>by rw [est_vf hj];unfold ext;rw [hf];rfl⟩
theorem est_fr {i:Nat} (hi:i<(freeL x).length):frF x (estR x ms) i=estD x ms i:=by
 obtain ⟨j,h1,h2,h3,h4⟩:=free_at hi;unfold frF;rw [zD_,h1];show vf (estR x ms) j=_;rw [est_vf h3];unfold ext;rw [if_pos h2,h4]
theorem Grd.dot {al q:List Rat} (h:Grd x al) (hq:q.length=busN x):dotR q al=dotn (freeL x).length (vf (rowR x q)) (frF x al):=by
 rw [dotR_sum hq h.1,rowR_dot];exact sumTo_congr fun j hj=>by rw [h.ext hj]
theorem Grd.eq {al be:List Rat} (h1:Grd x al) (h2:Grd x be) (he:∀ i,i<(freeL x).length→frF x al i=frF x be i):al=be:=by
 apply List.ext_getElem?;intro j
 by_cases hj:j<busN x
 ·have e:vf al j=vf be j:=by
   rw [h1.ext hj,h2.ext hj];unfold Go.Proofs.YthgdchffeigkbaaGreatDoor.ext
   by_cases hp:freeB (islN x) j=true
   ·rw [if_pos hp,if_pos hp]
    exact he _ (zB_.1 (pick_of hp hj)).1
   ·rw [if_neg hp,if_neg hp]
  rw [vf_get (l:=al) (i:=j) (by rw [h1.1];exact hj),vf_get (l:=be) (i:=j) (by rw [h2.1];exact hj),e]
 ·rw [List.getElem?_eq_none (by rw [h1.1];omega),List.getElem?_eq_none (by rw [h2.1];omega)]
theorem est_unique (hr:EReg x ms) {al:List Rat} (h:Grd x al) (hs:(lsOf x ms).Sol (frF x al)):al=estR x ms:=
 h.eq est_grd fun i hi=>by rw [est_fr hi,est_one hr hs i hi]
def costR (x:Net) (ms:List Mi) (al:List Rat):Rat:=sumR (ms.map fun m=>(m.wt:Rat)*(qOf m.txt-(dotR (formR x m).1 al+(formR x m).2))*(qOf m.txt-(dotR (formR x m).1 al+(formR x m).2)))
end
section
variable {x:Net} {ms:List Mi} {by_:Int}
end
section
variable {x:Net} {ms:List Mi}
end
end
end Go.Proofs.YthgdchffeigkbaaGreatDoor
