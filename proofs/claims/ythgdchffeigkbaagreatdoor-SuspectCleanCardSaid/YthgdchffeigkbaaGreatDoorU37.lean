import Derived.Test.YthgdchffeigkbaaGreatDoorU35
import Derived.Test.YthgdchffeigkbaaGreatDoorU36
set_option linter.unusedVariables false
set_option linter.unusedSimpArgs false
namespace Go.Proofs.YthgdchffeigkbaaGreatDoor
section
open Go.ChangeShapes Go.WideShapes Go.ChangeAt Go.RowKit
def lsum:List Rat→Rat
 | []=>0
 | a::r=>a+lsum r
theorem foldl_lsum:∀ (l:List Rat) (a:Rat),l.foldl (·+·) a=a+lsum l
 | [],a=>(Rat.add_zero a).symm
 | b::r,a=>by
  rw [List.foldl_cons,foldl_lsum r (a+b)];show a+b+lsum r=a+(b+lsum r);rw [Rat.add_assoc]
theorem sumR_lsum (l:List Rat):sumR l=lsum l:=by
 unfold sumR;rw [foldl_lsum,Rat.zero_add]
theorem dotR_sum {q al:List Rat} {n:Nat} (h1:q.length=n) (h2:al.length=n):dotR q al=sumTo n fun i=>vf q i*vf al i:=by
 have key:∀ k,k≤n→sumR ((List.zipWith (·*·) q al).take k)=sumTo k fun i=>vf q i*vf al i:=fun k=>by
  induction k with
  | zero=>intro _;rfl
  | succ k ih=>
   intro hk;rw [dotR_step (vf_get (i:=k) (by omega)) (vf_get (l:=al) (i:=k) (by omega)),ih (by omega)];rfl
 have:=key n lR;rw [zH_ (by rw [List.length_zipWith];omega)] at this;exact this
theorem addF_at {q:List Rat} {b:Rat} {u v:Nat} (hu:u<q.length) (hv:v<q.length) (j:Nat):vf (addF b u v q) j=vf q j+b*two u v j:=by
 unfold addF two;rw [vf_set (by rw [zU_];exact hv),vf_set hu,vf_set hu]
 by_cases h1:j=v
 ·subst h1
  by_cases h2:j=u
  ·subst h2
   simp only [if_true];grind
  ·simp only [if_true,if_neg h2];grind
 ·by_cases h2:j=u
  ·subst h2
   simp only [if_neg h1,if_true];grind
  ·simp only [if_neg h1,if_neg h2];grind
end
section
def yF (x:Net) (ms:List Mi):Fn:=fun k=>match ms[k]? with | some m=>qOf m.txt-(formR x m).2 | none=>0
def lsOf (x:Net) (ms:List Mi):Ls:=⟨(freeL x).length,ms.length,fun k=>vf ((rowsR x ms).getD k []),wtF ms,yF x ms⟩
section
variable {x:Net} {ms:List Mi}
theorem ls_row {k:Nat} {m:Mi} (h:ms[k]?=some m):(lsOf x ms).R k=vf (rowR x (formR x m).1):=by
 show vf ((rowsR x ms).getD k [])=_;unfold rowsR;rw [zD_,zM_,h];rfl
theorem ls_w {k:Nat} {m:Mi} (h:ms[k]?=some m):(lsOf x ms).w k=(m.wt:Rat):=wtF_at h
theorem ls_y {k:Nat} {m:Mi} (h:ms[k]?=some m):(lsOf x ms).y k=qOf m.txt-(formR x m).2:=by
 show yF x ms k=_;unfold yF;rw [h]
theorem ls_get {k:Nat} (h:k<(lsOf x ms).K):∃ m,ms[k]?=some m:=⟨_,zA_ h⟩
theorem ls_pos (hwt:∀ m∈ms,1≤m.wt):(lsOf x ms).Pos:=fun k hk=>by
 obtain ⟨m,hm⟩:=ls_get hk;rw [ls_w hm];have:=hwt m (zC_ hm);exact Rat.intCast_pos.2 (by omega)
theorem gain_row {n i:Nat} {M:List (List Rat)} (hi:i<n):∃ r,(gainR n M ms)[i]?=some r∧r.length=n∧∀ j,j<n→vf r j=gSum M ms M.length i j:=
 ⟨_,by unfold gainR;rw [zM_,List.getElem?_range hi];rfl,by simp,fun j hj=>vf_at (by rw [zM_,List.getElem?_range hj];rfl)⟩
theorem gain_wid {n:Nat} {M:List (List Rat)}:∀ a∈gainR n M ms,a.length=(gainR n M ms).length:=by
 rw [gainR_len];intro a ha;unfold gainR at ha;obtain ⟨i,hi,rfl⟩:=List.mem_map.1 ha;simp
theorem rows_len:(rowsR x ms).length=ms.length:=by unfold rowsR;rw [zG_]
theorem ls_G (i j:Nat):gSum (rowsR x ms) ms (rowsR x ms).length i j=(lsOf x ms).G i j:=by
 rw [rows_len];rfl
theorem gain_dot {i:Nat} {r:List Rat} (hr:(gainR (freeL x).length (rowsR x ms) ms)[i]?=some r) (c:Fn):dotn (freeL x).length (vf r) c=dotn (lsOf x ms).n ((lsOf x ms).G i) c:=by
 have hi:i<(freeL x).length:=by have:=(zB_.1 hr).1;rwa [gainR_len] at this
 obtain ⟨r',hr',-,hv⟩:=gain_row (M:=rowsR x ms) (ms:=ms) hi;rw [hr] at hr';injection hr' with hr';subst hr';exact dotn_congr (fun j hj=>by rw [hv j hj,ls_G]) fun _ _=>rfl
theorem ereg_iff (hwt:∀ m∈ms,1≤m.wt):EReg x ms↔∀ c:Fn,(∀ k,k<ms.length→dotn (freeL x).length ((lsOf x ms).R k) c=0)→∀ j,j<(freeL x).length→c j=0:=by
 unfold EReg;rw [reg_iff gain_wid,gainR_len];have key:∀ c:Fn,Ker (freeL x).length (vfs (gainR (freeL x).length (rowsR x ms) ms)) c↔∀ k,k<ms.length→dotn (freeL x).length ((lsOf x ms).R k) c=0:=fun c=>by
  rw [ker_iff];refine Iff.trans ?_ ((ls_pos (x:=x) hwt).ker c)
  constructor
  ·intro h i hi
   obtain ⟨r,hr,-,-⟩:=gain_row (M:=rowsR x ms) (ms:=ms) (n:=(freeL x).length) hi;rw [←gain_dot hr];exact h i r hr
  ·intro h i r hr
   rw [gain_dot hr];exact h i (by have:=(zB_.1 hr).1;rwa [gainR_len] at this)
 exact ⟨fun h c hc=>h c ((key c).2 hc),fun h c hc=>h c ((key c).1 hc)⟩
theorem inv_row {i:Nat} (hi:i<(freeL x).length):((invL (gainR (freeL x).length (rowsR x ms) ms)).getD i []).length=(freeL x).length:=by
 have h:=invL_len (M:=gainR (freeL x).length (rowsR x ms) ms) gain_wid;rw [gainR_len] at h;obtain ⟨r,hr⟩:∃ r,(invL (gainR (freeL x).length (rowsR x ms) ms))[i]?=some r:=zX_ (by rw [h.1];exact hi);rw [zD_,hr];exact h.2 r (zC_ hr)
theorem est_mul {i:Nat} (hi:i<(freeL x).length):estD x ms i=invMul (gainR (freeL x).length (rowsR x ms) ms) (vf (rgtR (freeL x).length x ms ms.length)) i:=by
 unfold estD invMul;rw [gainR_len];exact dotR_sum (inv_row hi) rgtR_len
theorem rgt_rt {i:Nat} (hi:i<(freeL x).length):vf (rgtR (freeL x).length x ms ms.length) i=(lsOf x ms).rt i:=by
 rw [rgtR_vf hi];unfold Ls.rt;refine sumTo_congr fun t ht=>?_;obtain ⟨m,hm⟩:=ls_get (x:=x) ht;rw [ls_w hm,ls_y hm,devF_at hm];rfl
theorem est_sol (hr:EReg x ms):(lsOf x ms).Sol (estD x ms):=fun i hi=>by
 obtain ⟨r,hr',hl,hv⟩:=gain_row (M:=rowsR x ms) (ms:=ms) (n:=(freeL x).length) hi;have h1:=inv_mul gain_wid hr (vf (rgtR (freeL x).length x ms ms.length)) hr';rw [gainR_len] at h1;rw [←gain_dot hr',dotn_congr (fun _ _=>rfl) (fun j hj=>est_mul hj),h1];exact rgt_rt hi
end
theorem pick_at {p:Nat→Bool}:∀ {n i j:Nat},(pick p n)[i]?=some j→p j=true∧j<n∧cnt p j=i
 | 0,i,j,h=>by simp [pick] at h
 | n+1,i,j,h=>by
  rw [pick_succ] at h
  by_cases hi:i<(pick p n).length
  ·rw [zR_ hi] at h
   obtain ⟨h1,h2,h3⟩:=pick_at h;exact ⟨h1,by omega,h3⟩
  ·rw [zN_ (by omega)] at h
   cases hp:p n with
   | false=>rw [hp] at h;simp at h
   | true=>
    rw [hp,if_pos rfl] at h;have hl:=(zB_.1 h).1;simp only [List.length_singleton] at hl;have h0:i-(pick p n).length=0:=by omega
    rw [h0] at h;simp at h;subst h;rw [pick_len] at hi h0;exact ⟨hp,Nat.lt_succ_self _,by omega⟩
theorem pick_of {p:Nat→Bool} {j:Nat} (hp:p j=true):∀ {n:Nat},j<n→(pick p n)[cnt p j]?=some j
 | 0,h=>by omega
 | n+1,h=>by
  rw [pick_succ]
  by_cases hj:j<n
  ·have:=pick_of hp hj
   rw [zR_ (zB_.1 this).1];exact this
  ·have:j=n:=by omega
   subst this;rw [zN_ (by rw [pick_len];exact lR),pick_len,Nat.sub_self,if_pos hp];rfl
theorem lay_at {p:Nat→Bool} {n:Nat} {d:Fn}:∀ {k:Nat},k≤cnt p n→∀ j,j<n→vf (layL (pick p n) d (zrs n) k) j=if p j=true∧cnt p j<k then d (cnt p j) else 0
 | 0,_,j,_=>by rw [if_neg (by omega)];exact vf_zrs n j
 | k+1,hk,j,hj=>by
  have ih:=lay_at (d:=d) (p:=p) (n:=n) (k:=k) (by omega) j hj;unfold layL;obtain ⟨j0,h0⟩:∃ j0,(pick p n)[k]?=some j0:=zX_ (by rw [pick_len];omega);obtain ⟨h1,h2,h3⟩:=pick_at h0;have e:(pick p n).getD k 0=j0:=by rw [zD_,h0];rfl
  rw [e,vf_set (by rw [layL_len];unfold zrs;rw [zO_];exact h2),ih]
  by_cases hjj:j=j0
  ·subst hjj
   rw [if_pos rfl,if_pos ⟨h1,by omega⟩,h3]
  ·rw [if_neg hjj]
   by_cases hp:p j=true
   ·have hne:cnt p j≠k:=fun e=>by
     have h4:=pick_of hp hj;rw [e,h0] at h4;injection h4 with h4;exact hjj h4.symm
    by_cases hlt:cnt p j<k
    ·rw [if_pos ⟨hp,hlt⟩,if_pos ⟨hp,by omega⟩]
    ·rw [if_neg (fun h=>hlt h.2),if_neg (fun h=>by omega)]
   ·rw [if_neg (fun h=>hp h.1),if_neg (fun h=>hp h.1)]
section
variable {x:Net} {ms:List Mi}
theorem est_len:(estR x ms).length=busN x:=by unfold estR;rw [layL_len];exact zO_
theorem lay_ext {d:Fn} {j:Nat} (hj:j<busN x):vf (layL (freeL x) d (zrs (busN x)) (freeL x).length) j=ext (freeB (islN x)) d j:=by
 have h:=lay_at (p:=freeB (islN x)) (d:=d) (n:=busN x) (k:=(freeL x).length) (Nat.le_of_eq (pick_len _ _)) j hj;unfold freeL at h ⊢;rw [h];unfold ext
 by_cases hp:freeB (islN x) j=true
 ·have h2:=(zB_.1 (pick_of hp hj)).1
  rw [if_pos ⟨hp,h2⟩,if_pos hp]
 ·rw [if_neg (fun h=>hp h.1),if_neg hp]
theorem est_vf {j:Nat} (hj:j<busN x):vf (estR x ms) j=ext (freeB (islN x)) (estD x ms) j:=lay_ext hj
def frF (x:Net) (al:List Rat):Fn:=fun i=>vf al ((freeL x).getD i 0)
def Grd (x:Net) (al:List Rat):Prop:=al.length=busN x∧∀ j,j<busN x→freeB (islN x) j=false→vf al j=0
theorem Grd.ext {al:List Rat} (h:Grd x al) {j:Nat} (hj:j<busN x):vf al j=ext (freeB (islN x)) (frF x al) j:=by
 unfold Go.Proofs.YthgdchffeigkbaaGreatDoor.ext
 by_cases hp:freeB (islN x) j=true
 ·rw [if_pos hp]
  unfold frF freeL;rw [zD_,pick_of hp hj];rfl
 ·rw [if_neg hp]
  exact h.2 j hj (by simpa using hp)
theorem free_at {i:Nat} (hi:i<(freeL x).length):∃ j,(freeL x)[i]?=some j∧freeB (islN x) j=true∧j<busN x∧cnt (freeB (islN x)) j=i:=by
 obtain ⟨j,hj⟩:∃ j,(freeL x)[i]?=some j:=⟨_,zA_ hi⟩;exact ⟨j,hj,pick_at hj⟩
theorem est_grd:Grd x (estR x ms):=⟨est_len,fun j hj hf=>by rw [est_vf hj];unfold ext;rw [hf];rfl⟩
theorem est_fr {i:Nat} (hi:i<(freeL x).length):frF x (estR x ms) i=estD x ms i:=by
 obtain ⟨j,h1,h2,h3,h4⟩:=free_at hi;unfold frF;rw [zD_,h1];show vf (estR x ms) j=_;rw [est_vf h3];unfold ext;rw [if_pos h2,h4]
theorem Grd.dot {al q:List Rat} (h:Grd x al) (hq:q.length=busN x):dotR q al=dotn (freeL x).length (vf (rowR x q)) (frF x al):=by
 rw [dotR_sum hq h.1,rowR_dot];exact sumTo_congr fun j hj=>by rw [h.ext hj]
theorem Grd.eq {al be:List Rat} (h1:Grd x al) (h2:Grd x be) (he:∀ i,i<(freeL x).length→frF x al i=frF x be i):al=be:=by
 apply List.ext_getElem?;intro j
 by_cases hj:j<busN x
 ·have e:vf al j=vf be j:=by
   rw [h1.ext hj,h2.ext hj];unfold Go.Proofs.YthgdchffeigkbaaGreatDoor.ext
   by_cases hp:freeB (islN x) j=true
   ·rw [if_pos hp,if_pos hp]
    exact he _ (zB_.1 (pick_of hp hj)).1
   ·rw [if_neg hp,if_neg hp]
  rw [vf_get (l:=al) (i:=j) (by rw [h1.1];exact hj),vf_get (l:=be) (i:=j) (by rw [h2.1];exact hj),e]
 ·rw [List.getElem?_eq_none (by rw [h1.1];omega),List.getElem?_eq_none (by rw [h2.1];omega)]
theorem sol_congr {a b:Fn} (h:(lsOf x ms).Sol a) (he:∀ i,i<(freeL x).length→a i=b i):(lsOf x ms).Sol b:=fun i hi=>by
 rw [←h i hi];exact dotn_congr (fun _ _=>rfl) fun j hj=>(he j hj).symm
theorem est_solF (hr:EReg x ms):(lsOf x ms).Sol (frF x (estR x ms)):=sol_congr (est_sol hr) fun i hi=>(est_fr hi).symm
theorem resid_at (ok:NetOk x) (hm:∀ m∈ms,MiOk x m) {al:List Rat} (h:Grd x al) {k:Nat} {m:Mi} (hk:ms[k]?=some m):qOf m.txt-(dotR (formR x m).1 al+(formR x m).2)=(lsOf x ms).res (frF x al) k:=by
 unfold Ls.res;rw [ls_y hk,ls_row hk];rw [h.dot (formR_ok ok (hm m (zC_ hk))).len];show _=_-dotn (freeL x).length _ _;grind
theorem residR_at (ok:NetOk x) (hm:∀ m∈ms,MiOk x m) {al:List Rat} (h:Grd x al) {k:Nat} (hk:k<ms.length):(residR x ms al)[k]?=some ((lsOf x ms).res (frF x al) k):=by
 obtain ⟨m,h0⟩:∃ m,ms[k]?=some m:=⟨_,zA_ hk⟩;unfold residR;rw [zM_,h0];exact congrArg some (resid_at ok hm h h0)
theorem residR_len {al:List Rat}:(residR x ms al).length=ms.length:=by unfold residR;rw [zG_]
theorem sumR_sumTo {qs:List Rat} {n:Nat} (h:qs.length=n):sumR qs=sumTo n (vf qs):=by
 have key:∀ k,k≤n→sumR (qs.take k)=sumTo k (vf qs):=fun k=>by
  induction k with
  | zero=>intro _;rfl
  | succ k ih=>
   intro hk;have h1:qs[k]?=some (vf qs k):=vf_get (by omega);rw [take_at h1,sumR_snoc,ih (by omega)];rfl
 have:=key n lR;rwa [zH_ (by omega)] at this
end
section
variable {x:Net} {ms:List Mi} {by_:Int}
end
section
variable {x:Net} {ms:List Mi}
end
def mM (x:Net) (m:Mi) (e:Nat) (b:Br):Int:=if m.kind=0 then (if e=(brIdx x m.name).toNat then 1 else 0) else if m.kind=2 then 0 else (if busAt x b.fr=busAt x m.name then 1 else 0)-(if busAt x b.to=busAt x m.name then 1 else 0)
def mN (x:Net) (m:Mi) (j:Nat):Int:=if m.kind=0 then 0 else if m.kind=2 then (if j=busAt x m.name then 1 else 0) else 0
def twI (u v j:Nat):Int:=(if j=u then 1 else 0)-(if j=v then 1 else 0)
theorem ite_cast (c:Prop) [Decidable c]:(((if c then 1 else 0:Int)):Rat)=if c then 1 else 0:=by split<;>rfl
theorem two_cast (u v j:Nat):((twI u v j:Int):Rat)=two u v j:=by
 unfold twI two;rw [Rat.intCast_sub,ite_cast,ite_cast]
theorem mM_abs (x:Net) (m:Mi) (e:Nat) (b:Br):(mM x m e b).natAbs≤1:=by
 unfold mM
 split
 ·split<;>decide
 ·split
  ·decide
  ·split<;>split<;>decide
theorem mN_abs (x:Net) (m:Mi) (j:Nat):(mN x m j).natAbs≤1:=by
 unfold mN
 split
 ·decide
 ·split
  ·split<;>decide
  ·decide
theorem twI_abs (u v j:Nat):(twI u v j).natAbs≤1:=by unfold twI;split<;>split<;>decide
section
variable {x:Net}
theorem injStep_at (ok:NetOk x) {b:Br} (hb:b∈x.brs) {bus:Nat} {s:List Rat×Rat} (h1:s.1.length=busN x) (j:Nat) :
    (injStep bus (busAt x b.fr) (busAt x b.to) (susR b) (conR b) s).1.length=busN x∧vf (injStep bus (busAt x b.fr) (busAt x b.to) (susR b) (conR b) s).1 j=vf s.1 j+(((if busAt x b.fr=bus then 1 else 0)-(if busAt x b.to=bus then 1 else 0):Int):Rat)*(susR b*two (busAt x b.fr) (busAt x b.to) j):=by
 have hu:=(busAt_ok ok (ok.br b hb).1).2.1;have hv:=(busAt_ok ok (ok.br b hb).2.1).2.1;have e1:vf (addF (sg false (susR b)) (busAt x b.fr) (busAt x b.to) s.1) j=vf s.1 j+susR b*two (busAt x b.fr) (busAt x b.to) j:=addF_at (by omega) (by omega) j;have step:∀ {q:List Rat},q.length=busN x→vf (addF (sg true (susR b)) (busAt x b.fr) (busAt x b.to) q) j=vf q j-susR b*two (busAt x b.fr) (busAt x b.to) j:=fun {q} hq=>by
  rw [addF_at (by omega) (by omega)];unfold sg;simp only [if_true];grind
 have i1:((1:Int):Rat)=1:=rfl;have i0:((0:Int):Rat)=0:=rfl;rw [Rat.intCast_sub];unfold injStep;dsimp only
 by_cases c1:busAt x b.fr=bus
 ·by_cases c2:busAt x b.to=bus
  ·rw [if_pos c1,if_pos c2,if_pos c1,if_pos c2]
   refine ⟨by rw [addF_len,addF_len];exact h1,?_⟩;rw [step (by rw [addF_len];exact h1),e1,i1];grind
  ·rw [if_pos c1,if_neg c2,if_pos c1,if_neg c2]
   refine ⟨by rw [addF_len];exact h1,?_⟩;rw [e1,i1,i0];grind
 ·by_cases c2:busAt x b.to=bus
  ·rw [if_neg c1,if_pos c2,if_neg c1,if_pos c2]
   refine ⟨by rw [addF_len];exact h1,?_⟩;rw [step h1,i1,i0];grind
  ·rw [if_neg c1,if_neg c2,if_neg c1,if_neg c2]
   refine ⟨h1,?_⟩;rw [i0];grind
theorem injGo_at (ok:NetOk x) {bus:Nat} (j:Nat):∀ (bs:List Br) (s:List Rat×Rat),(∀ b∈bs,b∈x.brs)→s.1.length=busN x→
    vf (injGo bus (bs.map susR) (bs.map conR) (bs.map fun b=>busAt x b.fr) (bs.map fun b=>busAt x b.to) s).1 j=vf s.1 j+lsum (bs.map fun b=>(((if busAt x b.fr=bus then 1 else 0)-(if busAt x b.to=bus then 1 else 0):Int):Rat)*(susR b*two (busAt x b.fr) (busAt x b.to) j))
 | [],s,_,_=>by
  show vf s.1 j=vf s.1 j+lsum [];unfold lsum;rw [Rat.add_zero]
 | b::bs,s,h,h1=>by
  obtain ⟨h2,h3⟩:=injStep_at ok (h b (by simp)) (bus:=bus) h1 j;have ih:=injGo_at ok (bus:=bus) j bs _ (fun a ha=>h a (by simp [ha])) h2;simp only [List.map_cons];unfold injGo;rw [ih,h3];show _=vf s.1 j+(_+lsum _);rw [Rat.add_assoc]
theorem form_at (ok:NetOk x) {m:Mi} (hm:MiOk x m) {j:Nat} (hj:j<busN x) :
    vf (formR x m).1 j=sumTo x.brs.length (fun e=>match x.brs[e]? with | some b=>((mM x m e b:Int):Rat)*(susR b*two (busAt x b.fr) (busAt x b.to) j) | none=>0)+((mN x m j:Int):Rat):=by
 have i1:((1:Int):Rat)=1:=rfl;have i0:((0:Int):Rat)=0:=rfl;have hzl:(zrs (busN x)).length=busN x:=zO_;unfold formR mN
 by_cases h0:m.kind=0
 ·rw [if_pos h0,if_pos h0]
  have h1:=hm.1 h0;rcases brIdx_spec x m.name with ⟨e,_⟩ | ⟨i,b,e,hb,_⟩
  ·omega
  ·obtain ⟨a1,a2,a3,a4⟩:=mFrom_at hb
   have hil:=(zB_.1 hb).1;have hbm:=zC_ hb;have hu:=(busAt_ok ok (ok.br b hbm).1).2.1;have hv:=(busAt_ok ok (ok.br b hbm).2.1).2.1;have e1:(brIdx x m.name).toNat=i:=by omega
   simp only [e1,zD_,vf_at a3,vf_at a4,a1,a2,Option.getD_some];rw [addF_at (by omega) (by omega),vf_zrs];rw [sumTo_one hil (fun e2 he2 hne=>by
    obtain ⟨b2,hb2⟩:∃ b2,x.brs[e2]?=some b2:=⟨_,zA_ he2⟩;rw [hb2];show ((mM x m e2 b2:Int):Rat)*_=0;unfold mM;rw [if_pos h0,e1,if_neg hne,i0,Rat.zero_mul])]
   rw [hb];show _=((mM x m i b:Int):Rat)*_+_;unfold mM;rw [if_pos h0,e1,if_pos rfl,i1,i0];unfold sg;grind
 ·rw [if_neg h0,if_neg h0]
  by_cases h2:m.kind=2
  ·rw [if_pos h2,if_pos h2]
   rw [sumTo_zero (fun e he=>by
    obtain ⟨b2,hb2⟩:∃ b2,x.brs[e]?=some b2:=⟨_,zA_ he⟩;rw [hb2];show ((mM x m e b2:Int):Rat)*_=0;unfold mM;rw [if_neg h0,if_pos h2,i0,Rat.zero_mul])]
   have hbus:=(busAt_ok ok (hm.2 h0)).2.1;rw [vf_set (by rw [hzl];exact hbus),vf_zrs,ite_cast,Rat.zero_add]
  ·rw [if_neg h2,if_neg h2]
   have e1:=inj_maps x;rw [e1.1,e1.2];have h3:=injGo_at ok (bus:=busAt x m.name) j x.brs (zrs (busN x),0) (fun b hb=>hb) hzl;show vf (injGo (busAt x m.name) (x.brs.map susR) (x.brs.map conR) _ _ (zrs (busN x),0)).1 j=_;rw [h3,←sumR_lsum,sumR_sumTo (n:=x.brs.length) (by rw [zG_])];show vf (zrs (busN x)) j+_=_;rw [vf_zrs,Rat.zero_add,i0,Rat.add_zero];refine sumTo_congr fun e he=>?_;obtain ⟨b2,hb2⟩:∃ b2,x.brs[e]?=some b2:=⟨_,zA_ he⟩;rw [vf_at (by rw [zM_,hb2];rfl),hb2];show _=((mM x m e b2:Int):Rat)*_;unfold mM;rw [if_neg h0,if_neg h2]
def augOf (x:Net) (ms:List Mi):Aug where
 E:=x.brs.length
 X:=fun e=>match x.brs[e]? with | some b=>b.x*b.tap | none=>1
 tw:=fun e i=>match x.brs[e]? with | some b=>twI (busAt x b.fr) (busAt x b.to) ((freeL x).getD i 0) | none=>0
 M:=fun k e=>match ms[k]?,x.brs[e]? with | some m,some b=>mM x m e b | _,_=>0
 N:=fun k i=>match ms[k]? with | some m=>mN x m ((freeL x).getD i 0) | none=>0
 w:=fun k=>match ms[k]? with | some m=>m.wt | none=>1
def lsY (x:Net) (ms:List Mi) (y:Fn):Ls:=⟨(freeL x).length,ms.length,fun k=>vf ((rowsR x ms).getD k []),wtF ms,y⟩
theorem aug_ok (ok:NetOk x) {ms:List Mi} (hm:∀ m∈ms,MiOk x m) (hw:∀ m∈ms,1≤m.wt∧m.wt≤1000) (y:Fn):(augOf x ms).Ok (lsY x ms y) where
 x:=fun e he=>by
  obtain ⟨b,hb⟩:∃ b,x.brs[e]?=some b:=⟨_,zA_ he⟩;have hX:(augOf x ms).X e=b.x*b.tap:=by
   show (match x.brs[e]? with | some b=>b.x*b.tap | none=>1)=_;rw [hb]
  rw [hX];obtain ⟨h1,h2,h3,h4,-⟩:=br_bnd (ok.br b (zC_ hb)).2.2.2;have h5:=Int.mul_le_mul h2 h4 (by omega) (by decide);have h6:=Int.mul_pos (show 0<b.x by omega) (show 0<b.tap by omega);omega
 t:=fun e i=>by
  show (match x.brs[e]? with | some b=>twI _ _ _ | none=>0).natAbs≤1
  split
  ·exact twI_abs _ _ _
  ·decide
 m:=fun k e=>by
  show (match ms[k]?,x.brs[e]? with | some m,some b=>mM x m e b | _,_=>0).natAbs≤1
  split
  ·exact mM_abs _ _ _ _
  ·decide
 n:=fun k i=>by
  show (match ms[k]? with | some m=>mN x m _ | none=>0).natAbs≤1
  split
  ·exact mN_abs _ _ _
  ·decide
 w:=fun k hk2=>by
  obtain ⟨m,hm2⟩:∃ m,ms[k]?=some m:=⟨_,zA_ hk2⟩;have h1:=hw m (zC_ hm2);show 1≤(match ms[k]? with | some m=>m.wt | none=>1)∧_≤_∧wtF ms k=_;rw [wtF_at hm2];show 1≤(match ms[k]? with | some m=>m.wt | none=>1)∧(match ms[k]? with | some m=>m.wt | none=>1)≤1000∧(m.wt:Rat)=((match ms[k]? with | some m=>m.wt | none=>1:Int):Rat);rw [hm2];exact ⟨h1.1,h1.2,rfl⟩
 r:=fun k hk2 i hi=>by
  obtain ⟨m,hm2⟩:∃ m,ms[k]?=some m:=⟨_,zA_ hk2⟩;obtain ⟨j,hj,-,hjb,-⟩:=free_at (x:=x) hi;have h1:=ls_row (x:=x) hm2;show (lsOf x ms).R k i=_;rw [h1];have e1:vf (rowR x (formR x m).1) i=vf (formR x m).1 j:=vf_at (by unfold rowR;rw [zM_,hj];rfl);rw [e1,form_at ok (hm m (zC_ hm2)) hjb];have e2:(freeL x).getD i 0=j:=by rw [zD_,hj];rfl
  congr 1
  ·refine sumTo_congr fun e he=>?_
   obtain ⟨b,hb⟩:∃ b,x.brs[e]?=some b:=⟨_,zA_ he⟩;show _=((match ms[k]?,x.brs[e]? with | some m,some b=>mM x m e b | _,_=>0:Int):Rat)*((1000000 / ((match x.brs[e]? with | some b=>b.x*b.tap | none=>1:Int):Rat))*((match x.brs[e]? with | some b=>twI (busAt x b.fr) (busAt x b.to) ((freeL x).getD i 0) | none=>0:Int):Rat));rw [hm2,hb,e2];show ((mM x m e b:Int):Rat)*(susR b*two _ _ j)=((mM x m e b:Int):Rat)*((1000000 / ((b.x*b.tap:Int):Rat))*((twI _ _ j:Int):Rat));rw [two_cast];unfold susR;rw [Rat.divInt_eq_div];rfl
  ·show _=((match ms[k]? with | some m=>mN x m ((freeL x).getD i 0) | none=>0:Int):Rat)
   rw [hm2,e2]
end
def Zt (D:Int) (H:Nat) (q:Rat):Prop:=∃ z:Int,q*(D:Rat)=(z:Rat)∧z.natAbs≤H
theorem Zt.more {D:Int} {H H':Nat} {q:Rat} (h:Zt D H q) (hh:H≤H'):Zt D H' q:=by
 obtain ⟨z,h1,h2⟩:=h;exact ⟨z,h1,zI_ h2 hh⟩
theorem Zt.add {D:Int} {H H':Nat} {p q:Rat} (hp:Zt D H p) (hq:Zt D H' q):Zt D (H+H') (p+q):=by
 obtain ⟨a,h1,h2⟩:=hp;obtain ⟨b,h3,h4⟩:=hq;refine ⟨a+b,by rw [Rat.add_mul,h1,h3,Rat.intCast_add],?_⟩;have:=Int.natAbs_add_le a b;omega
theorem Zt.int (z:Int):Zt 1 z.natAbs (z:Rat):=⟨z,by rw [show ((1:Int):Rat)=1 from rfl,Rat.mul_one],lR⟩
theorem Zt.zero (D:Int):Zt D 0 0:=⟨0,by rw [Rat.zero_mul];rfl,lR⟩
theorem Zt.fits {D:Int} {H a b:Nat} {q:Rat} (h:Zt D H q) (h0:D≠0) (h1:H≤tenP a) (h2:D.natAbs≤tenP b) (ha:a<2000) (hb:b<2000):Fits q:=by
 obtain ⟨z,h3,h4⟩:=h;have key:∀ (D:Nat) (z:Int),q*(((D:Nat):Int):Rat)=(z:Rat)→D≠0→z.natAbs≤H→D≤tenP b→Fits q:=fun D z h3 h0 h4 h2=>by
  have hne:((D:Int):Rat)≠0:=by
   intro e;have:((D:Int):Rat)=((0:Int):Rat):=e;rw [Rat.intCast_inj] at this;omega
  have e:q=Rat.divInt z D:=by
   rw [Rat.divInt_eq_div,←h3,Rat.mul_div_cancel hne]
  have hp:∀ {c k:Nat},c<k→tenP c<10^k:=fun hc=>Nat.pow_lt_pow_right (by decide) hc;have ht:Tn 2000 q:=by
   rw [e];exact tn_divInt h0 (zT_ (zI_ h4 h1) (hp (k:=2000) ha)) (zT_ h2 (hp (k:=2000) hb))
  exact ht.fits lR
 by_cases hd:0≤D
 ·refine key D.natAbs z ?_ (by omega) h4 h2
  rw [Int.natAbs_of_nonneg hd];exact h3
 ·refine key D.natAbs (-z) ?_ (by omega) (by rw [Int.natAbs_neg];exact h4) h2
  have e:((D.natAbs:Nat):Int)=-D:=by omega
  rw [e,Rat.intCast_neg,Rat.intCast_neg,←h3];grind
section
variable {x:Net} {ms:List Mi}
structure Sml (x:Net) (ms:List Mi):Prop where
 ok:NetOk x
 h8:x.nodes.length≤8
 h10:x.brs.length≤10
 k8:ms.length≤8
 mi:∀ m∈ms,MiOk x m
 tn:∀ m∈ms,Tn 25 (qOf m.txt)
 wt:∀ m∈ms,1≤m.wt∧m.wt≤1000
theorem denM_dvd {q:Rat} {l:List Rat} (h:q∈l):q.den∣denM x l:=by
 unfold denM;exact Nat.dvd_trans (denQ_dvd h) (Nat.dvd_trans (Nat.dvd_mul_left _ _) (Nat.dvd_mul_right _ _))
theorem denB_dvd2 {l:List Rat}:denB x.brs*1000∣denM x l:=by
 unfold denM;exact ⟨denQ l,by rw [Nat.mul_right_comm]⟩
def valD (x:Net) (ms:List Mi):Nat:=denM x (ms.map fun m=>qOf m.txt)
theorem Sml.vD (h:Sml x ms):valD x ms≠0∧valD x ms≤tenP 283:=by
 have h1:=denM_small (al:=ms.map fun m=>qOf m.txt) h.ok h.h10 (fun q hq=>by obtain ⟨m,hm,rfl⟩:=List.mem_map.1 hq;exact h.tn m hm) (by rw [zG_];exact h.k8);unfold valD tenP;exact h1
theorem Sml.val (h:Sml x ms) {k:Nat} (hk:k<ms.length):Ot (valD x ms) (10^25+80000) (yF x ms k):=by
 obtain ⟨m,hm⟩:∃ m,ms[k]?=some m:=⟨_,zA_ hk⟩;have hmm:=zC_ hm;unfold yF;rw [hm];have h1:=ot_dvd (ot_tn (h.tn m hmm)) (denM_dvd (x:=x) (List.mem_map.2 ⟨m,hmm,rfl⟩:qOf m.txt∈ms.map fun m=>qOf m.txt));have h2:=ot_dvd (ot_neg (formR_ot h.ok h.h10 (h.mi m hmm)).fr) (denB_dvd2 (x:=x) (l:=ms.map fun m=>qOf m.txt));have h3:=ot_add h1 h2;show Ot _ _ (qOf m.txt-(formR x m).2);rw [Rat.sub_eq_add_neg];exact h3
theorem Sml.short (h:Sml x ms) (hr:EReg x ms) {y a:Fn} (ha:(lsY x ms y).Sol a) {V:Rat} {B:Nat} (hB:1≤B) {Y:Nat→Int} (hY:∀ k,k<ms.length→y k*V=(Y k:Rat)) (hYB:∀ k,k<ms.length→(Y k).natAbs≤B) :
    ∃ t:Int,t≠0∧t.natAbs≤tenP 396∧(∀ i,i<(freeL x).length→∃ z:Int,z.natAbs≤B*tenP 396∧V*a i*(t:Rat)=(z:Rat))∧∀ k,k<ms.length→∃ z:Int,z.natAbs≤B*tenP 396∧V*(lsY x ms y).res a k*(t:Rat)=(z:Rat):=
 (aug_ok h.ok h.mi h.wt y).short (freeL_len h.ok h.h8) h.h10 h.k8 ((ereg_iff fun m hm=>(h.wt m hm).1).1 hr) ha hB hY hYB
theorem Sml.own (h:Sml x ms) (hr:EReg x ms):∃ D:Int,D≠0∧D.natAbs≤tenP 679∧(∀ i,i<(freeL x).length→Zt D (tenP 706) (estD x ms i))∧∀ k,k<ms.length→Zt D (tenP 706) ((lsOf x ms).res (estD x ms) k):=by
 obtain ⟨h1,h2⟩:=h.vD;have hv:∀ k,∃ z:Int,k<ms.length→yF x ms k*((valD x ms:Int):Rat)=(z:Rat)∧z.natAbs≤tenP 310:=fun k=>by
  by_cases hk:k<ms.length
  ·obtain ⟨z,h3,h4⟩:=h.val hk
   refine ⟨z,fun _=>⟨h3,zI_ h4 ?_⟩⟩;have h5:10^25+80000≤tenP 26:=by decide
   exact zI_ (Nat.mul_le_mul h5 h2) (tnAdd (by decide))
  ·exact ⟨0,fun e=>absurd e hk⟩
 have hB:1≤tenP 310:=tnPos _;obtain ⟨t,h3,h4,h5,h6⟩:=h.short hr (y:=yF x ms) (a:=estD x ms) (est_sol hr) (V:=((valD x ms:Int):Rat)) (B:=tenP 310) hB (Y:=fun k=>(hv k).choose) (fun k hk=>((hv k).choose_spec hk).1) (fun k hk=>((hv k).choose_spec hk).2);have h7:tenP 310*tenP 396≤tenP 706:=tnAdd (by decide);refine ⟨(valD x ms:Int)*t,?_,?_,fun i hi=>?_,fun k hk=>?_⟩
 ·intro e
  rcases Int.mul_eq_zero.1 e with e | e
  ·omega
  ·exact h3 e
 ·rw [Int.natAbs_mul,Int.natAbs_natCast]
  exact zI_ (Nat.mul_le_mul h2 h4) (tnAdd (by decide))
 ·obtain ⟨z,e1,e2⟩:=h5 i hi
  exact ⟨z,by rw [Rat.intCast_mul,←e2];grind,zI_ e1 h7⟩
 ·obtain ⟨z,e1,e2⟩:=h6 k hk
  refine ⟨z,?_,zI_ e1 h7⟩;have e3:(lsY x ms (yF x ms)).res (estD x ms) k=(lsOf x ms).res (estD x ms) k:=rfl;rw [e3] at e2;rw [Rat.intCast_mul,←e2];grind
theorem est_fits (h:Sml x ms) (hr:EReg x ms):∀ q∈estR x ms,Fits q:=fun q hq=>by
 obtain ⟨D,h0,h1,h2,-⟩:=h.own hr;obtain ⟨j,hj⟩:=List.mem_iff_getElem?.1 hq;have hjl:j<busN x:=by have:=(zB_.1 hj).1;rwa [est_len] at this
 have e:=est_vf (x:=x) (ms:=ms) hjl;rw [vf_at hj] at e;rw [e];unfold ext
 by_cases hp:freeB (islN x) j=true
 ·rw [if_pos hp]
  exact (h2 _ (zB_.1 (pick_of hp hjl)).1).fits h0 lR h1 (by decide) (by decide)
 ·rw [if_neg hp]
  exact (Zt.zero 1).fits (a:=0) (b:=0) (by decide) (by decide) (by decide) (by decide) (by decide)
end
end
end Go.Proofs.YthgdchffeigkbaaGreatDoor
