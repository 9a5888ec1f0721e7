import Derived.Test.YthgdchffeigkbaaGreatDoorU15
set_option linter.unusedVariables false
set_option linter.unusedSimpArgs false
namespace Go.Proofs.YthgdchffeigkbaaGreatDoor
section
open Go.ChangeShapes Go.WideShapes Go.ChangeAt Go.RowKit
attribute [local go_sem ↓] execOp_call_val
attribute [local go_sem] callVal_func setCell_drewN alloc_drewN sEq_walk
def QP (q:Rat) (w:World) (e:Ending) (w':World):Prop:=Below w.heap.size w w'∧∃ v:Rv,e=.returned (.agg #[.bool v.b1,.slice v.A v.n v.c,.bool v.b2,.slice v.A2 v.m v.d])∧RtV w' w'.heap.size q v
theorem RtP.qp {q:Rat} {w w':World} {e:Ending} (h:RtP q w e w'):QP q w e w':=by
 obtain ⟨hb,b1,A,n,c,b2,A2,m,d,he,h⟩:=h;exact ⟨hb,⟨b1,A,n,c,b2,A2,m,d⟩,he,h⟩
section
variable {w w':World} {B B':Nat} {q:Rat} {v:Rv}
theorem RtV.below (h:RtV w B q v) (hb:Below B' w w') (hB:B≤B'):RtV w' B q v:=RtIs.below h hb hB
theorem RtV.more (h:RtV w B q v) (hB:B≤B'):RtV w B' q v:=RtIs.more h hB
theorem RtV.up (h:RtV w w.heap.size q v) (hb:Below w.heap.size w w'):RtV w' w'.heap.size q v:=RtIs.up h hb
end
theorem mulV {p q:Rat} {v u:Rv} {w:World} (h1:RtV w w.heap.size p v) (h2:RtV w w.heap.size q u) (hs:qsz p+qsz q+1≤35184372088832):Calls Tryz.prog 70 #[.agg #[.bool v.b1,.slice v.A v.n v.c,.bool v.b2,.slice v.A2 v.m v.d],.agg #[.bool u.b1,.slice u.A u.n u.c,.bool u.b2,.slice u.A2 u.m u.d]] w (QP (p*q) w):=
 (rmul_any p q v.b1 v.A v.n v.c v.b2 v.A2 v.m v.d u.b1 u.A u.n u.c u.b2 u.A2 u.m u.d w h1 h2 hs).mono fun _ _ h=>h.qp
theorem addV {p q:Rat} {v u:Rv} {w:World} (h1:RtV w w.heap.size p v) (h2:RtV w w.heap.size q u) (hs:qsz p+qsz q+1≤35184372088832):Calls Tryz.prog 69 #[.agg #[.bool v.b1,.slice v.A v.n v.c,.bool v.b2,.slice v.A2 v.m v.d],.agg #[.bool u.b1,.slice u.A u.n u.c,.bool u.b2,.slice u.A2 u.m u.d]] w (QP (p+q) w):=
 (radd_any p q v.b1 v.A v.n v.c v.b2 v.A2 v.m v.d u.b1 u.A u.n u.c u.b2 u.A2 u.m u.d w h1 h2 hs).mono fun _ _ h=>h.qp
theorem subV {p q:Rat} {v u:Rv} {w:World} (h1:RtV w w.heap.size p v) (h2:RtV w w.heap.size q u) (hs:qsz p+qsz q+1≤35184372088832):Calls Tryz.prog 68 #[.agg #[.bool v.b1,.slice v.A v.n v.c,.bool v.b2,.slice v.A2 v.m v.d],.agg #[.bool u.b1,.slice u.A u.n u.c,.bool u.b2,.slice u.A2 u.m u.d]] w (QP (p-q) w):=
 (rsub_any p q v.b1 v.A v.n v.c v.b2 v.A2 v.m v.d u.b1 u.A u.n u.c u.b2 u.A2 u.m u.d w h1 h2 hs).mono fun _ _ h=>h.qp
theorem divV {p q:Rat} {v u:Rv} {w:World} (h1:RtV w w.heap.size p v) (h2:RtV w w.heap.size q u) (hq:q≠0) (hs:qsz p+qsz q+1≤35184372088832):Calls Tryz.prog 120 #[.agg #[.bool v.b1,.slice v.A v.n v.c,.bool v.b2,.slice v.A2 v.m v.d],.agg #[.bool u.b1,.slice u.A u.n u.c,.bool u.b2,.slice u.A2 u.m u.d]] w (QP (p / q) w):=
 (rdiv_any p q v.b1 v.A v.n v.c v.b2 v.A2 v.m v.d u.b1 u.A u.n u.c u.b2 u.A2 u.m u.d w h1 h2 hq hs).mono fun _ _ h=>h.qp
theorem cmpV {p q:Rat} {v u:Rv} {w:World} (h1:RtV w w.heap.size p v) (h2:RtV w w.heap.size q u) (hs:qsz p+qsz q+1≤35184372088832):Calls Tryz.prog 118 #[.agg #[.bool v.b1,.slice v.A v.n v.c,.bool v.b2,.slice v.A2 v.m v.d],.agg #[.bool u.b1,.slice u.A u.n u.c,.bool u.b2,.slice u.A2 u.m u.d]] w (fun e w'=>e=.returned (.int .i64 (cmpQ p q))∧Below w.heap.size w w'):=
 rcmp_any p q v.b1 v.A v.n v.c v.b2 v.A2 v.m v.d u.b1 u.A u.n u.c u.b2 u.A2 u.m u.d w h1 h2 hs
theorem negV {p:Rat} {v:Rv} {w:World} (h1:RtV w w.heap.size p v):Calls Tryz.prog 108 #[.agg #[.bool v.b1,.slice v.A v.n v.c,.bool v.b2,.slice v.A2 v.m v.d]] w (QP (-p) w):=
 (rneg_any p v.b1 v.A v.n v.c v.b2 v.A2 v.m v.d w h1).mono fun _ _ h=>h.qp
theorem signV {p:Rat} {v:Rv} {w:World} (h1:RtV w w.heap.size p v):Calls Tryz.prog 119 #[.agg #[.bool v.b1,.slice v.A v.n v.c,.bool v.b2,.slice v.A2 v.m v.d]] w fun e w'=>e=.returned (.int .i64 p.num.sign)∧Below w.heap.size w w':=rsign_any p v.b1 v.A v.n v.c v.b2 v.A2 v.m v.d w h1
theorem wholeV (k:Int) (w:World) (h0:-9223372036854775808≤k) (h1:k≤9223372036854775807):Calls Tryz.prog 66 #[.int .i64 k] w (QP (k:Rat) w):=(whole_any k w h0 h1).mono fun _ _ h=>h.qp
theorem fracV (k d:Int) (w:World) (h0:-9223372036854775808≤k) (h1:k≤9223372036854775807) (h2:-9223372036854775808≤d) (h3:d≤9223372036854775807) (hd:d≠0):Calls Tryz.prog 92 #[.int .i64 k,.int .i64 d] w (QP (Rat.divInt k d) w):=(frac_any k d w h0 h1 h2 h3 hd).mono fun _ _ h=>h.qp
theorem parseV {s:ByteArray} (h:ratCk s.data.toList=0) (w:World):Calls Tryz.prog 67 #[.string s] w (QP (qOf s) w):=(parse_str h w).mono fun _ _ h=>h.qp
theorem qput {w:World} {g T:Nat} {x v:Rv} (h:Blk w g T #[.bool x.b1,.slice x.A x.n x.c,.bool x.b2,.slice x.A2 x.m x.d]):Blk ((((w.setCell ⟨g,0,none⟩ (.bool v.b1)).setCell ⟨g,1,none⟩ (.slice v.A v.n v.c)).setCell ⟨g,2,none⟩ (.bool v.b2)).setCell ⟨g,3,none⟩ (.slice v.A2 v.m v.d)) g T #[.bool v.b1,.slice v.A v.n v.c,.bool v.b2,.slice v.A2 v.m v.d]:=blk_set4 h
theorem RtV.keepq {w:World} {g T:Nat} {x v u:Rv} {q:Rat} (h:RtV w w.heap.size q u) (hb:Blk w g T #[.bool x.b1,.slice x.A x.n x.c,.bool x.b2,.slice x.A2 x.m x.d]):RtV ((((w.setCell ⟨g,0,none⟩ (.bool v.b1)).setCell ⟨g,1,none⟩ (.slice v.A v.n v.c)).setCell ⟨g,2,none⟩ (.bool v.b2)).setCell ⟨g,3,none⟩ (.slice v.A2 v.m v.d)) ((((w.setCell ⟨g,0,none⟩ (.bool v.b1)).setCell ⟨g,1,none⟩ (.slice v.A v.n v.c)).setCell ⟨g,2,none⟩ (.bool v.b2)).setCell ⟨g,3,none⟩ (.slice v.A2 v.m v.d)).heap.size q u:=by
 have B1:=hb.set_at (i:=0) (cs':=#[.bool v.b1,.slice x.A x.n x.c,.bool x.b2,.slice x.A2 x.m x.d]) (.bool v.b1) (by simp);have B2:=B1.set_at (i:=1) (cs':=#[.bool v.b1,.slice v.A v.n v.c,.bool x.b2,.slice x.A2 x.m x.d]) (.slice v.A v.n v.c) (by simp);have B3:=B2.set_at (i:=2) (cs':=#[.bool v.b1,.slice v.A v.n v.c,.bool v.b2,.slice x.A2 x.m x.d]) (.bool v.b2) (by simp);exact (((RtIs.keep h (hb.cell 0) (by simp) _).keep (B1.cell 1) (by simp) _).keep (B2.cell 2) (by simp) _).keep (B3.cell 3) (by simp) _
theorem qfar {w:World} {g g' T:Nat} {cs:Array Value} {v:Rv} (h:Blk w g' T cs) (hg:g'≠g):Blk ((((w.setCell ⟨g,0,none⟩ (.bool v.b1)).setCell ⟨g,1,none⟩ (.slice v.A v.n v.c)).setCell ⟨g,2,none⟩ (.bool v.b2)).setCell ⟨g,3,none⟩ (.slice v.A2 v.m v.d)) g' T cs:=(((h.far hg _).far hg _).far hg _).far hg _
def putQ (w:World) (g:Nat) (v:Rv):World:=(((w.setCell ⟨g,0,none⟩ (.bool v.b1)).setCell ⟨g,1,none⟩ (.slice v.A v.n v.c)).setCell ⟨g,2,none⟩ (.bool v.b2)).setCell ⟨g,3,none⟩ (.slice v.A2 v.m v.d)
theorem below_putQ {a w:World} {B g:Nat} {v:Rv} (h:Below B a w) (hg:B≤g):Below B a (putQ w g v):=below_set4 h hg
theorem RdQ.keepq {w:World} {g T n:Nat} {A:Option Addr} {x v:Rv} {qs:List Rat} {B:Nat} (h:RdQ w B A n qs) (hB:B≤g):RdQ (putQ w g v) B A n qs:=h.below (below_putQ (Below.refl B w) hB) lR
theorem qsz_whole (k:Int) (h0:-9223372036854775808≤k) (h1:k≤9223372036854775807):qsz (k:Rat)≤2:=by
 unfold qsz;rw [Rat.num_intCast,Rat.den_intCast];exact Nat.max_le.2 ⟨dlen_le (by show _<4294967296^2;omega),by decide+kernel⟩
def sumR (qs:List Rat):Rat:=qs.foldl (·+·) 0
theorem sumR_snoc (qs:List Rat) (q:Rat):sumR (qs++[q])=sumR qs+q:=by unfold sumR;rw [List.foldl_append];rfl
theorem sumR_qsz:∀ (n:Nat) (qs:List Rat),qs.length=n→∀ b,(∀ q∈qs,qsz q≤b)→qsz (sumR qs)≤n*(b+1)+1
 | 0,qs,h,b,hb=>by
  rw [List.length_eq_zero_iff] at h;subst h;show qsz 0≤_;have:qsz 0≤1:=by decide+kernel
  omega
 | n+1,qs,h,b,hb=>by
  obtain ⟨r,q,rfl⟩:∃ r q,qs=r++[q]:=⟨qs.dropLast,qs.getLast (by intro e;subst e;simp at h),(List.dropLast_concat_getLast _).symm⟩;rw [zE_,List.length_singleton] at h;have h1:=sumR_qsz n r (by omega) b fun q hq=>hb q (List.mem_append_left _ hq);have h2:=hb q (by simp);rw [sumR_snoc];have h3:=add_qsz (sumR r) q;rw [Nat.succ_mul];omega
def dotR (a b:List Rat):Rat:=sumR (List.zipWith (·*·) a b)
end
end Go.Proofs.YthgdchffeigkbaaGreatDoor
