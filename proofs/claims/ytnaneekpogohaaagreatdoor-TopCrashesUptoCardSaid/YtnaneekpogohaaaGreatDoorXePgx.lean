/- slices -/
import Derived.Test.YtnaneekpogohaaaGreatDoorXePx
import Derived.Shelf.Spec.SlicesGrow
open List renaming length_nil->zD
open Nat renaming le_refl->zB
open Option.some renaming injEq->zA
open Prod.mk renaming injEq->zC
namespace Go.Proofs
open Go.Shelf
shelf_lay_g Lays8.n4 Nm8 4 at Tryz 90 as Tryz.laysGrow
end Go.Proofs
namespace Go.Am
open Go.Proofs Go.RowKit Go.Lib
set_option maxRecDepth 100000
def Zin (args:List AV)(H:Hp):Option (AV×Hp):=match args with
 |[.nils,.int .i64 n]=>if n=0 then some (.nils,H) else if 0<n/\n<=1099511627776 then some (.vs 1 (.own H.length 0) [],H++[.tok 0]) else none
 |_=>none
theorem ZvF (args:List AV):Xh (Zin args):=by
 unfold Zin;split
 ·exact Ye _ (fun _=>fun H v H' h=>by
   simp only[zA,zC]at h;obtain⟨rfl,rfl⟩:=h;exact⟨zB _,fun o ho h=>⟨h,fun x=>rfl⟩⟩) fun _=>Ye _ (fun _=>UC (fun m=>AV.vs 1 (.own m 0) []) _) fun _=>Zv
 ·exact Zv
def Zx0:EffFn:=⟨Zin,ZvF⟩
theorem ZvE {C:Cfg}(hP:C.P=Tryz.prog)(_:∀ g,C.glob g=TE g):FH C 90 Zx0:=by
 intro W0 S H H' args args' v hI hW hs ha h;have h:Zin args H=some (v,H'):=h;unfold Zin at h;split at h
 ·rename_i n;obtain⟨l⟩:=args'
  match l,hs with
  |[x,y],_ =>
   have h1:=ha 0 _ x rfl rfl;have h2:=ha 1 _ y rfl rfl;cases h1;cases h2;rw[hP];split at h
   ·rename_i hn;subst hn;simp only[zA,zC]at h;obtain⟨rfl,rfl⟩:=h;have:=Any8.slices_Grow_room Tryz.laysGrow none 0 0 0 S.w (zB _) (by decide) (by decide) (by decide);rw[show Tryz.laysGrow_ren.f 4=90 by kernel_rfl]at this;refine this.mono ?_
    rintro e w' ⟨rfl,rfl⟩
    exact⟨_,S,rfl,rfl,Ext.refl S,hI,.nils⟩
   ·split at h
    ·rename_i hn0 hn;simp only[zA,zC]at h;obtain⟨rfl,rfl⟩:=h;obtain⟨N,rfl⟩:=Int.eq_ofNat_of_zero_le (Int.le_of_lt hn.1);have hbt:GY Tryz.prog (Tryz.laysGrow_ren.t 25)=some 16:=by kernel_rfl
     have hzt:Jr Tryz.prog (Tryz.laysGrow_ren.t 25)=some (.str []):=by kernel_rfl
     have hst:Xe Tryz.prog (Tryz.laysGrow_ren.t 25)=some 1:=by kernel_rfl
     obtain⟨i0,hi0,hib,_⟩:=Zba hbt S.w;obtain⟨z,Mi,hzv⟩:=Zj5 hzt hi0
     have hsz:i0.size=1:=by
      unfold Xe at hst;simpa[hi0]using hst
     have hzc:z.cells.size=1:=by
      have:=(hzv S).cells rfl;exact this.size
     have:=Any8.slices_Grow_grow Tryz.laysGrow i0 z hi0 Mi (by rw[hsz];decide) none 0 0 N [] S.w (zB _) (by omega) (by rw[hib];omega) (by omega) (by simp) (fun _=>rfl) (fun a h=>by cases h);rw[show Tryz.laysGrow_ren.f 4=90 by kernel_rfl]at this;refine this.mono ?_
     rintro e w' ⟨rfl,rfl⟩
     have hge:=grownCap_ge S.w (0+N) 0 (Tryz.laysGrow_ren.t 25);generalize grownCap S.w (0+N) 0 (Tryz.laysGrow_ren.t 25)=G at hge
     have hcs:((([]:List Value).toArray++Builtin.zeroCells z.cells (0+N-0)++Builtin.zeroCells z.cells (G-(0+N)))).size=G*1:=by
      simp only[Array.size_append,size_zeroCells,hzc,List.size_toArray,zD];omega
     generalize (([]:List Value).toArray++Builtin.zeroCells z.cells (0+N-0)++Builtin.zeroCells z.cells (G-(0+N)))=c at hcs;have hI':=Inv.drew hI;have he:∀ e0 b0 hw0 sz0,S.drew.tk H.length=some (e0,b0,hw0,sz0)->e0<0:=fun e0 b0 hw0 sz0 h=>by rw[(hI'.past _ (zB _)).2]at h;cases h
     have hv:=ZjV (S:=S.drew) (n:=H.length) (e:=0) (k:=1) (len:=0) (cap:=G) (l:=[]) (c:=c) (el:=Tryz.laysGrow_ren.t 25) rfl (by simp) (by simp[flat]) (by simp) hcs (fun i x v hi _=>by simp[flat]at hi);simp only[zD,Nat.zero_mul]at hv;exact⟨_,S.drew.tokn H.length (.cells c (Tryz.laysGrow_ren.t 25)) 0 0 c.size,rfl,rfl,(Ext.drew S).trans (Ext.tokn hI' he),hI'.tokn (TokSet.new H 0) he rfl (Nat.zero_le _),hv⟩
    ·cases h
 ·cases h
end Go.Am
