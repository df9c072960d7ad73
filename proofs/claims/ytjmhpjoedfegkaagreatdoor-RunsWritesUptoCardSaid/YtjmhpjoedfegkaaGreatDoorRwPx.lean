/- strconv -/
import Derived.Shelf.Strconv.Itoa3
import Derived.Shelf.Lay
import Derived.Shelf.Strings.SlTrimAscii
import Derived.Ground.NamesProg
import Derived.Test.YtjmhpjoedfegkaaGreatDoorProg
import Derived.Test.YtjmhpjoedfegkaaGreatDoorHmBdx
import Derived.Test.YtjmhpjoedfegkaaGreatDoorRwPex
open List renaming length_map->zC
open Array renaming getElem?_eq_none->zA
open Go.Am.AV renaming int->zB
namespace Go.Proofs
open Go.Shelf Go.RowKit
shelf_lay LaysM.n171 Nm 171 at Tryz as Tryz.laysItoa
shelf_lay Lays.n161 Nm 161 at Tryz as Tryz.laysTrim
def Tryz.laysByte_ren:Ren:={ f:=λ|167=>163|240=>117|276=>152|n=>n,t:=λ|0=>0|4=>4|5=>5|9=>9|20=>20|37=>94|70=>131|72=>133|75=>136|164=>185|80=>139|n=>n,g:=λn=>n }
theorem Tryz.laysByte:Lays.n167 Tryz.prog Tryz.laysByte_ren where
 mixed:=by kernel_rfl
 f167:=by kernel_rfl
 f240:=by kernel_rfl
 f276:=by kernel_rfl
 t0:=Tryz.underlying0
 a0:=Tryz.isAgg0
 z0:=Tryz.sizeOf0
 v0:=Tryz.zeroValue0
 t4:=Tryz.underlying4
 a4:=Tryz.isAgg4
 z4:=Tryz.sizeOf4
 v4:=Tryz.zeroValue4
 t5:=Tryz.underlying5
 a5:=Tryz.isAgg5
 z5:=Tryz.sizeOf5
 v5:=Tryz.zeroValue5
 t9:=Tryz.underlying9
 a9:=Tryz.isAgg9
 z9:=Tryz.sizeOf9
 v9:=Tryz.zeroValue9
 t20:=Tryz.underlying20
 a20:=Tryz.isAgg20
 z20:=Tryz.sizeOf20
 v20:=Tryz.zeroValue20
 t37:=Tryz.underlying94
 a37:=Tryz.isAgg94
 z37:=Tryz.sizeOf94
 v37:=Tryz.zeroValue94
 t70:=Tryz.underlying131
 a70:=Tryz.isAgg131
 z70:=Tryz.sizeOf131
 v70:=Tryz.zeroValue131
 t72:=Tryz.underlying133
 a72:=Tryz.isAgg133
 z72:=Tryz.sizeOf133
 v72:=Tryz.zeroValue133
 t75:=Tryz.underlying136
 a75:=Tryz.isAgg136
 z75:=Tryz.sizeOf136
 v75:=Tryz.zeroValue136
 t164:=Tryz.underlying185
 a164:=Tryz.isAgg185
 z164:=Tryz.sizeOf185
 v164:=Tryz.zeroValue185
def Tryz.laysText_ren:Ren:={ f:=λ|166=>95|240=>117|276=>152|n=>n,t:=λ|0=>0|3=>3|4=>4|9=>9|20=>20|37=>94|70=>131|72=>133|75=>136|164=>185|80=>139|n=>n,g:=λn=>n }
theorem Tryz.laysText:Lays.n166 Tryz.prog Tryz.laysText_ren where
 mixed:=by kernel_rfl
 f166:=by kernel_rfl
 f240:=by kernel_rfl
 f276:=by kernel_rfl
 t0:=Tryz.underlying0
 a0:=Tryz.isAgg0
 z0:=Tryz.sizeOf0
 v0:=Tryz.zeroValue0
 t3:=Tryz.underlying3
 a3:=Tryz.isAgg3
 z3:=Tryz.sizeOf3
 v3:=Tryz.zeroValue3
 t4:=Tryz.underlying4
 a4:=Tryz.isAgg4
 z4:=Tryz.sizeOf4
 v4:=Tryz.zeroValue4
 t9:=Tryz.underlying9
 a9:=Tryz.isAgg9
 z9:=Tryz.sizeOf9
 v9:=Tryz.zeroValue9
 t20:=Tryz.underlying20
 a20:=Tryz.isAgg20
 z20:=Tryz.sizeOf20
 v20:=Tryz.zeroValue20
 t37:=Tryz.underlying94
 a37:=Tryz.isAgg94
 z37:=Tryz.sizeOf94
 v37:=Tryz.zeroValue94
 t70:=Tryz.underlying131
 a70:=Tryz.isAgg131
 z70:=Tryz.sizeOf131
 v70:=Tryz.zeroValue131
 t72:=Tryz.underlying133
 a72:=Tryz.isAgg133
 z72:=Tryz.sizeOf133
 v72:=Tryz.zeroValue133
 t75:=Tryz.underlying136
 a75:=Tryz.isAgg136
 z75:=Tryz.sizeOf136
 v75:=Tryz.zeroValue136
 t164:=Tryz.underlying185
 a164:=Tryz.isAgg185
 z164:=Tryz.sizeOf185
 v164:=Tryz.zeroValue185
shelf_lay Lays.n169 Nm 169 at Tryz as Tryz.laysString
end Go.Proofs
namespace Go.Am
open Go.Proofs Go.Shelf Go.RowKit
def ZcI (args:List AV):Option AV :=
 match args with
 |[.int .i64 n]=>if -9223372036854775808<=n/\n<=9223372036854775807 then some (.str (Lib.itoa n)) else none
 |_=>none
def crcTab:List Int:=[0,498536548,997073096,651767980,1994146192,1802195444,1303535960,1342533948,3988292384,4027552580,3604390888,3412177804,2607071920,2262029012,2685067896,3183342108]
def ZqE:AV:=.vp (crcTab.map (zB .u32))
def My (g:Nat):Option (List AV) :=
 if g=2 then some (Lib.pow10Tab.map (zB .u64)) else if g=0 then some (crcTab.map (zB .u32)) else none
theorem VRel.int_inv {S:Snap}{k:IntKind}{n:Int}{v:Value}(h:VRel S (.int k n) v):v=.int k n:=by cases h;rfl
theorem Held.ints {S:Snap}{g:Nat}{k:IntKind}{zs:List Int}(hv:VRel S (.vp (zs.map (zB k))) (.pointer (some ⟨g,0,none⟩)))(hh:Held S g (zs.map (zB k)))(hne:0<zs.length) :
 ∃ el fr,S.w.heap[g]?=some (.cells (zs.map (Value.int k)).toArray el fr):=by
 obtain⟨vs,h1,h2⟩:=hh;cases hv with|vp _ _ _ f hc q1 q2 =>
 have h0:=(h2 0).2;have hlt:0<vs.size:=by rw[h1];simpa using hne
 unfold World.cell? at h0;split at h0
 ·rename_i c el fr hg;refine⟨el,fr,?_⟩;rw[hg];congr 2;have hcell:∀ i,S.w.cell? ⟨g,i,none⟩=c[i]?:=λi=>by simp[World.cell?,hg]
  apply Array.ext_getElem?;intro i;rw[<-hcell i];by_cases hi:i<zs.length
  ·obtain⟨p1,_⟩:=q1 i (by simpa using hi);rw[Nat.zero_add]at p1;have hr:=q2 i (.int k zs[i]) (by simp[hi]);rw[p1];have:f i=.int k zs[i]:=VRel.int_inv hr;rw[this];simp[hi]
  ·rw[(h2 i).2,zA (by rw[h1,zC];omega),zA (by rw[List.size_toArray,zC];omega)]
 ·rw[Array.getElem?_eq_getElem hlt]at h0;cases h0
theorem ZAj {C : Cfg} (hP : C.P = Tryz.prog) (hG : ∀ g, C.glob g = My g) {S : Snap} (hW : ZpY C S) : Lib.TabIs Tryz.prog S.w "internal/strconv.uint64pow10" .u64 Lib.pow10Tab := by
 obtain⟨h1,h2⟩:=hW 2 (Lib.pow10Tab.map (zB .u64)) ((hG 2).trans (by simp[My]));obtain⟨el,fr,h3⟩:=Held.ints h1 h2 (by decide);unfold Lib.TabIs World.var?
 rw [show Tryz.prog.globalNamed "internal/strconv.uint64pow10" = some 2 by kernel_rfl]
 simp[h3]
theorem ZwR {C:Cfg}(hP:C.P=Tryz.prog)(hG:∀ g,C.glob g=My g):Zcw C 91 ZcI:=by
 intro W0 S H args args' v hI hW hs ha h;unfold ZcI at h;split at h
 ·rename_i n;split at h
  ·rename_i hn;injection h with h;subst h;obtain⟨l⟩:=args'
   match l,hs with
   |[u],_ =>
    have h1:=ha 0 _ u rfl rfl;cases h1;have hc:=Any.strconv_Itoa Tryz.laysItoa n hn.1 hn.2 S.w (ZAj hP hG hW);have hf:Tryz.laysItoa_ren.f 171=91:=by kernel_rfl
    rw[hf]at hc;rw[hP];refine hc.mono ?_
    rintro e w' ⟨rfl,k,os,rfl⟩
    obtain⟨r1,r2⟩:=hI.went (w':=Go.Sort.grow (S.w.drewN k) os) ⟨rfl,rfl,rfl,by simp[Go.Sort.grow],λi hi=>by
     show ((S.w.drewN k).heap++os)[i]?=_;rw[Array.getElem?_append_left (by show i<S.w.heap.size;omega)];rfl⟩
    exact⟨_,_,rfl,rfl,r1,r2,.str _ _ (by simp)⟩
  ·cases h
 ·cases h
theorem Zyu (b:ByteArray):b.data.toList.length=b.size:=by rw[Array.length_toList];rfl
def NK:TypeId:=133
def NL:TypeId:=5
theorem ZqS:Builder.Extra Tryz.prog Tryz.laysByte_ren where
 sizeBuilder:=by kernel_rfl
 liesBuilder:=by kernel_rfl
 t5:=Tryz.underlying5
 a5:=Tryz.isAgg5
 z5:=Tryz.sizeOf5
 v5:=Tryz.zeroValue5
 infoByte:=by kernel_rfl
 cellsByte:=by kernel_rfl
 sizeByte:=by kernel_rfl
 neB5:=by decide
theorem ZmY:Builder.Extra Tryz.prog Tryz.laysString_ren where
 sizeBuilder:=by kernel_rfl
 liesBuilder:=by kernel_rfl
 t5:=Tryz.underlying5
 a5:=Tryz.isAgg5
 z5:=Tryz.sizeOf5
 v5:=Tryz.zeroValue5
 infoByte:=by kernel_rfl
 cellsByte:=by kernel_rfl
 sizeByte:=by kernel_rfl
 neB5:=by decide
theorem ZqT:Builder.Extra Tryz.prog Tryz.laysText_ren where
 sizeBuilder:=by kernel_rfl
 liesBuilder:=by kernel_rfl
 t5:=Tryz.underlying5
 a5:=Tryz.isAgg5
 z5:=Tryz.sizeOf5
 v5:=Tryz.zeroValue5
 infoByte:=by kernel_rfl
 cellsByte:=by kernel_rfl
 sizeByte:=by kernel_rfl
 neB5:=by decide
def textE:EffFn:=ZxZ NK NL
def byteE:EffFn:=ZxY NK NL
def stringE:EffFn:=Zyr NK NL
theorem ZvV {C:Cfg}(hP:C.P=Tryz.prog)(_:∀ g,C.glob g=My g):Bw C 163 byteE:=by
 refine ZjJ ?_;rw[hP];have h:=Zow Tryz.laysByte ZqS;rw[show Tryz.laysByte_ren.f 167=163 by kernel_rfl,show Tryz.laysByte_ren.t 72=NK by kernel_rfl,show Tryz.laysByte_ren.t 5=NL by kernel_rfl]at h;exact h
theorem ZxL {C:Cfg}(hP:C.P=Tryz.prog)(_:∀ g,C.glob g=My g):Bw C 95 textE:=by
 refine ZjJ ?_;rw[hP];have h:=Zpm Tryz.laysText ZqT;rw[show Tryz.laysText_ren.f 166=95 by kernel_rfl,show Tryz.laysText_ren.t 72=NK by kernel_rfl,show Tryz.laysText_ren.t 5=NL by kernel_rfl]at h;exact h
theorem Zsc {C:Cfg}(hP:C.P=Tryz.prog)(_:∀ g,C.glob g=My g):Bw C 96 stringE:=by
 refine ZjJ ?_;rw[hP];have h:=ZlP Tryz.laysString ZmY;rw[show Tryz.laysString_ren.f 169=96 by kernel_rfl,show Tryz.laysString_ren.t 72=NK by kernel_rfl,show Tryz.laysString_ren.t 5=NL by kernel_rfl]at h;exact h
def ZcQ (args:List AV):Option AV :=
 match args with
 |[.str s,.str c]=>if c.length<4294967281/\c.all (λb=>decide (b.toNat<128))=true then some (.str (Lib.trimLeftS s c)) else none
 |_=>none
theorem ZxP {C:Cfg}(hP:C.P=Tryz.prog)(_:∀ g,C.glob g=My g):Zcw C 127 ZcQ:=by
 intro W0 S H args args' v hI hW hs ha h;unfold ZcQ at h;split at h
 ·rename_i s c;split at h
  ·rename_i hc;injection h with h;subst h;obtain⟨l⟩:=args'
   match l,hs with
   |[x,y],_ =>
    have h1:=ha 0 _ x rfl rfl;have h2:=ha 1 _ y rfl rfl;cases h1 with|str _ b hb =>
    cases h2 with|str _ d hd =>
    subst hb hd
    have:=Any.strings_TrimLeft_laid Tryz.laysTrim (by kernel_rfl) b d S.w (by rw[<-Zyu];exact hc.1) (λj x hx=>by
     have:=List.all_eq_true.1 hc.2 x (List.mem_of_getElem? hx);simpa using this)
    rw[show Tryz.laysTrim_ren.f 161=127 by kernel_rfl]at this;rw[hP];refine this.mono ?_
    rintro e w' ⟨rfl,hb⟩
    obtain⟨r1,r2⟩:=hI.went hb;exact⟨_,_,rfl,rfl,r1,r2,.str _ _ (by simp)⟩
  ·cases h
 ·cases h
end Go.Am
