/-
  The merger in the machine: merge.New.
-/
import Derived.Test.YtehanadfidoodaaGreatDoorNkSmx
import Derived.Test.YtehanadfidoodaaGreatDoorEmXx
namespace Go.Am
set_option linter.unusedSimpArgs false
set_option linter.unusedVariables false
set_option linter.unusedSectionVars false
set_option maxRecDepth 100000
theorem Zes {a q rx:AV}{L:Loc}{p:Spec}{rs:List Nat}(ha:LocAV a L)(hsm:LocSm L)(hq:SpecAV q p)(hkl:p.keys.length≤1048576)(hrx:Sl 1 rx (rs.map fun r=>AV.ptr r 0))(hrl:rs.length≤1048576)(H:Hp) :
 ∃ H' g lx c e xp rx',U4 [a,q,rx] H=some (.ptr g 0,H')∧H'[g]?=some (.cells (Qx L lx c e p xp (ZL p==0) rx' [] false))∧LocAV (.agg (L.cells lx c e)) L∧SpecAV (.agg (p.cells xp)) p∧Sl 1 rx' (rs.map fun r=>AV.ptr r 0)∧Stp [] H H'∧H.length≤g:=by
 have hav:=ha
 obtain⟨lx,c,e,rfl,hlx,hc,he⟩:=ha
 obtain⟨xp,rfl,hxp⟩:=hq
 have hl1:(H++[AObj.cells (L.cells lx c e)]).length=H.length+1:=by simp
 have g1:((H++[AObj.cells (L.cells lx c e)])++[AObj.cells (p.cells xp)])[H.length]?=some (.cells (L.cells lx c e)):=by simp
 have g2:((H++[AObj.cells (L.cells lx c e)])++[AObj.cells (p.cells xp)])[H.length+1]?=some (.cells (p.cells xp)):=by
  rw[List.getElem?_append_right (by simp)];simp
 have l0:=Y2 g2 0 (v:=xp) rfl
 obtain⟨x',T,q1,q2,q3,q4⟩:=FC hxp (by rw[List.length_map];exact hkl) (bytes:=40) (by omega) ((H++[AObj.cells (L.cells lx c e)])++[AObj.cells (p.cells xp)])
 have g3:=YB g1 T
 have g4:=YB g2 T
 have hS3:Stp [] H (((H++[AObj.cells (L.cells lx c e)])++[AObj.cells (p.cells xp)])++T):=by rw[List.append_assoc,List.append_assoc];exact Stp.push _ _
 generalize hH3:((H++[AObj.cells (L.cells lx c e)])++[AObj.cells (p.cells xp)])++T=H3 at q1 g3 g4 hS3
 have s0:Zh 1 (.ptr (H.length+1) 0) x' H3=some (.tuple [],H3.set (H.length+1) (.cells (p.cells x'))):=R0 g4 0 (v:=x') q3 q4 (by simp[Spec.cells])
 have g5:(H3.set (H.length+1) (.cells (p.cells x')))[H.length]?=some (.cells (L.cells lx c e)):=Y5 _ (by omega) g3
 have g6:(H3.set (H.length+1) (.cells (p.cells x')))[H.length+1]?=some (.cells (p.cells x')):=Zv _ g4
 have hS4:Stp [H.length+1] H3 (H3.set (H.length+1) (.cells (p.cells x'))):=Stp.set _ _ (by simp)
 generalize hH4:H3.set (H.length+1) (.cells (p.cells x'))=H4 at s0 g5 g6 hS4
 have hfz:=fun k=>LA g6 k
 have g7:(H4.set (H.length+1) .dead)[H.length]?=some (.cells (L.cells lx c e)):=Y5 _ (by omega) g5
 have hS5:Stp [H.length+1] H4 (H4.set (H.length+1) .dead):=Stp.set _ _ (by simp)
 generalize hH5:H4.set (H.length+1) .dead=H5 at hfz g7 hS5
 have hld:Z4 true 6 (.ptr H.length 0) H5=some (.agg (L.cells lx c e)):=by rw[U7 g7];simp[Go.Am.apart,Loc.cells]
 obtain⟨a',r1,lx',c',e',rfl,r2,r3,r4⟩:=Zgu (a:=.agg (L.cells lx c e)) ⟨lx,c,e,rfl,hlx,hc,he⟩ hsm H5
 have hsp':SpecAV (.agg (p.cells x')) p:=⟨x',rfl,q2⟩
 have hv1:Yr true 5 (.vp (p.cells x'))=some (.agg (p.cells x')):=by simp[Yr,Z4,Go.Am.apart,Spec.cells]
 have hv2:Z4 true 5 (.vp (p.cells x')) H5=some (.agg (p.cells x')):=Xr 5 (p.cells x') rfl H5
 have hck:=Ep hsp' H5
 obtain⟨rx',T2,u1,u2,u3,u4⟩:=FC hrx (by rw[List.length_map];exact hrl) (bytes:=8) (by omega) H5
 have hfill:(YS [(0,6,.agg (L.cells lx' c' e')),(6,5,.agg (p.cells x')),(11,1,.bool (ZL p==0)),(12,1,rx')] [(.str []),.nils,(.str []),(.str []),.nils,.nils,.nils,(.int .i64 0),(.int .i64 0),(.bool false),(.bool false),(.bool false),.nils,(.str []),(.bool false)]).map AV.agg=some (.agg (Qx L lx' c' e' p x' (ZL p==0) rx' [] false)):=by
  have h3:rx'.cells.length=1:=by rw[u3];rfl
  have hr:rx'=.nils∨∃ tok l,rx'=.vs 1 tok l:=by
   rcases u2 with ⟨h,_⟩|⟨tok,h⟩
   ·exact .inl h
   ·exact .inr ⟨tok,_,h⟩
  rcases hr with h|⟨tok,l,h⟩ <;> subst h <;> rfl
 have hS7:Stp [] H ((H5++T2)++[.cells (Qx L lx' c' e' p x' (ZL p==0) rx' [] false)]):=by
  have h1:Stp [] H H4:=⟨Nat.le_trans hS3.len hS4.len,fun i hi hn=>(hS4.at' i (Nat.lt_of_lt_of_le hi hS3.len) (by simp;omega)).trans (hS3.at' i hi hn)⟩
  have h2:Stp [] H H5:=⟨Nat.le_trans h1.len hS5.len,fun i hi hn=>(hS5.at' i (Nat.lt_of_lt_of_le hi h1.len) (by simp;omega)).trans (h1.at' i hi hn)⟩
  refine h2.trans (B:=[]) ?_ (fun _ h=>h) (fun _ h=>by cases h)
  rw[List.append_assoc]
  exact Stp.push _ _
 have h5l:H.length≤H5.length:=by
  have:=hS3.len;have:=hS4.len;have:=hS5.len;omega
 refine⟨(H5++T2)++[.cells (Qx L lx' c' e' p x' (ZL p==0) rx' [] false)],(H5++T2).length,lx',c',e',x',rx',?_,by simp,⟨lx',c',e',rfl,r2,r3,r4⟩,hsp',u2,hS7,by simp;omega⟩
 rw[Zcj]
 unfold IT
 simp only[X8,go_sem,hl1,Nat.zero_add,l0,q1,s0,hfz,hld,r1,hv1,hv2,hck,u1,hfill]
theorem NextD.none_end {lt:Zj→Zj→Bool}{same:Zj→Bool}{ds ds':List Rd}{z:Option Zj}(h:NextD lt same ds z ds'):z=none→JE lt (ds'.map Rd.rest) 0 none=none:=by
 induction h with
 |done h=>exact fun _=>h
 |skip hx h hs k ih=>exact ih
 |give hx h hs=>intro e;cases e
theorem NextD.at_end {lt:Zj→Zj→Bool}{same:Zj→Bool}{ds ds':List Rd}{z:Option Zj}(h:NextD lt same ds z ds')(he:JE lt (ds.map Rd.rest) 0 none=none):z=none∧ds'=ds:=by
 cases h with
 |done h=>exact⟨rfl,rfl⟩
 |skip hx h hs k=>rw[he]at h;cases h
 |give hx h hs=>rw[he]at h;cases h
theorem NextD.less {lt:Zj→Zj→Bool}{same:Zj→Bool}{ds ds':List Rd}{z:Option Zj}(h:NextD lt same ds z ds'):ZY ds'≤ZY ds∧∀ a,z=some a→ZY ds'<ZY ds:=by
 induction h with
 |done h=>exact⟨Nat.le_refl _,fun a e=>by cases e⟩
 |skip hx h hs k ih =>
  obtain⟨h1,h2⟩:=ih
  rw[Wj,ZY]at h1 h2 ⊢
  rw[hx,List.length_cons]
  dsimp only at h1 h2
  exact⟨by omega,fun a e=>by have:=h2 a e;omega⟩
 |give hx h hs =>
  rw[Wj,ZY,Wj,ZY,hx,List.length_cons]
  dsimp only
  exact⟨by omega,fun a e=>by omega⟩
section
variable {o t g:Nat}{tm:Tmp}{s:Sto}{A:List Nat}{L:Loc}{lx c e:AV}{p:Spec}{xp:AV}{rx:AV}{last:Zm}{has:Bool}{rs:List Nat}
 (hm:TmpOk tm) (hk:StoOk s) (hc:s.crashed=false) (h0:s.count=0)
 (hl:LocAV (.agg (L.cells lx c e)) L) (hok:LocOk L) (hs:SpecAV (.agg (p.cells xp)) p) (hks:∀ k∈p.keys,KeOk k)
 (hrx:Sl 1 rx (rs.map fun r=>AV.ptr r 0)) (hnd:rs.Nodup) (hlen:rs.length≤1048576)
 (hgA:g∉A) (hgd:g∉rs) (hlast:last.length≤1048576)
include hm hk hc h0 hl hok hs hks hrx hnd hlen hgA hgd hlast
theorem NH {ds:List Rd}{H:Hp}(hr:ds.map Rd.r=rs)(hsys:SysAt H o t tm s A)(hrd:∀ x∈ds,RdAt H o tm s A x)(hg:H[g]?=some (.cells (Qx L lx c e p xp (ZL p==0) rx last has))) :
 ∃ H' z ds',Ye [.ptr g 0] H=some (.tuple [.str (z.getD []),.bool z.isSome,.int .i64 0],H')∧NextD (Vq L p) (Qg L p last has) ds z ds'∧SysAt H' o t tm s A∧Stp (g::rs++A) H H'∧ds'.map Rd.r=rs∧(∀ x∈ds',RdAt H' o tm s A x) ∧
  H'[g]?=some (.cells (match z with|none=>Qx L lx c e p xp (ZL p==0) rx last has|some a=>Qx L lx c e p xp (ZL p==0) rx a true)):=by
 have hnil:Yj (.pointer 134) .eql (.ptr g 0) .nilp=some (.bool false):=rfl
 obtain⟨H',z,ds',h1,h2⟩:=Zje hm hk hc h0 hl hok hs hks hrx hnd hlen hgA hgd hlast H (ZY ds) ds H (Nat.le_refl _) hr hsys hrd hg
 refine⟨H',z,ds',?_,h2⟩
 rw[U6]
 unfold Vj
 simp only[hnil,go_sem,K9]
 exact h1
end
section
variable {α:Type}(c:α→Int)(mem:Int)
end
def grp (w i q:Nat):List Nat:=List.range' (q*w) (min w (i-q*w))
def KX (w i:Nat):Nat:=(i+w-1) / w
def V9 (w i:Nat):List (List Nat):=(List.range (KX w i)).map (grp w i)
theorem ZeM {w:Nat}(hw:0<w):KX w 0=0:=by unfold KX;exact Nat.div_eq_of_lt (by omega)
theorem ZpD {w i:Nat}(hw:0<w)(h:i % w=0):KX w i=i / w∧KX w (i+1)=i / w+1:=by
 obtain⟨q,rfl⟩:∃ q,i=w*q:=⟨i / w,by have:=Nat.div_add_mod i w;omega⟩
 unfold KX
 constructor
 ·rw[Nat.mul_div_cancel_left q hw,show w*q+w-1=w*q+(w-1) by omega,Nat.mul_add_div hw]
  rw[Nat.div_eq_of_lt (by omega)];omega
 ·rw[Nat.mul_div_cancel_left q hw,show w*q+1+w-1=w*q+w by omega,Nat.mul_add_div hw,Nat.div_self hw]
theorem ZpE {w i:Nat}(hw:0<w)(h:i % w≠0):KX w i=i / w+1∧KX w (i+1)=i / w+1:=by
 have hd:=Nat.div_add_mod i w
 have hl:=Nat.mod_lt i hw
 generalize i / w=q at hd ⊢
 generalize i % w=r at hd hl h
 subst hd
 unfold KX
 constructor
 ·rw[show w*q+r+w-1=w*q+(w+(r-1)) by omega,Nat.mul_add_div hw,Nat.add_div_left _ hw,Nat.div_eq_of_lt (by omega)]
 ·rw[show w*q+r+1+w-1=w*q+(w+r) by omega,Nat.mul_add_div hw,Nat.add_div_left _ hw,Nat.div_eq_of_lt (by omega)]
theorem EN {w i q:Nat}(h:(q+1)*w≤i):grp w i q=List.range' (q*w) w:=by
 unfold grp
 rw[Nat.add_mul,Nat.one_mul]at h
 rw[Nat.min_eq_left (by omega)]
theorem Zok {w i:Nat}(hw:0<w)(h:i % w=0):V9 w (i+1)=V9 w i++[[i]]:=by
 obtain⟨h1,h2⟩:=ZpD hw h
 have hd:=Nat.div_add_mod i w
 rw[h,Nat.add_zero]at hd
 unfold V9
 rw[h1,h2,List.range_succ,List.map_append]
 congr 1
 ·refine List.map_congr_left fun q hq=>?_
  have hq:=List.mem_range.1 hq
  have:(q+1)*w≤i:=by rw[←hd,Nat.mul_comm w];exact Nat.mul_le_mul_right _ hq
  rw[EN this,EN (by omega)]
 ·simp only[List.map_cons,List.map_nil,grp]
  rw[Nat.mul_comm,hd,Nat.add_sub_cancel_left,Nat.min_eq_right (by omega)]
  rfl
theorem Zol {w i:Nat}(hw:0<w)(h:i % w≠0):∃ A g,V9 w i=A++[g]∧V9 w (i+1)=A++[g++[i]]∧g.length<w:=by
 obtain⟨h1,h2⟩:=ZpE hw h
 have hd:=Nat.div_add_mod i w
 have hl:=Nat.mod_lt i hw
 refine⟨(List.range (i / w)).map (grp w i),grp w i (i / w),?_,?_,?_⟩
 ·unfold V9;rw[h1,List.range_succ,List.map_append];rfl
 ·unfold V9
  rw[h2,List.range_succ,List.map_append]
  congr 1
  ·refine List.map_congr_left fun q hq=>?_
   have hq:=List.mem_range.1 hq
   have:(q+1)*w≤i:=by
    have:(q+1)*w≤w*(i / w):=by rw[Nat.mul_comm w];exact Nat.mul_le_mul_right _ hq
    omega
   rw[EN this,EN (by omega)]
  ·simp only[List.map_cons,List.map_nil,grp]
   have e:i / w*w=w*(i / w):=Nat.mul_comm _ _
   rw[e,Nat.min_eq_right (by omega),Nat.min_eq_right (by omega),show i+1-w*(i / w)=(i-w*(i / w))+1 by omega,List.range'_concat]
   congr 3
   omega
 ·unfold grp;rw[List.length_range'];have e:i / w*w=w*(i / w):=Nat.mul_comm _ _;omega
theorem Zfu (w i:Nat):(V9 w i).length=KX w i:=by simp[V9]
theorem ZkC {w i q:Nat}(hw:0<w)(h:q<KX w i):q*w<i:=by
 unfold KX at h
 have h3:(q+1)*w≤i+w-1:=(Nat.le_div_iff_mul_le hw).1 h
 rw[Nat.add_mul,Nat.one_mul]at h3
 omega
end Go.Am
