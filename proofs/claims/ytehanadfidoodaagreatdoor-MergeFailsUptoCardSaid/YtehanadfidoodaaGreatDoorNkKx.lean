/-
  The locale that counts.
-/
import Derived.Test.YtehanadfidoodaaGreatDoorNkJx
namespace Go.Am
set_option linter.unusedSimpArgs false
set_option linter.unusedVariables false
set_option maxRecDepth 100000
theorem Zb7:∀ (n:Nat) (l:List AV),l.length=n→V6 false 1 n l=l:=by
 intro n
 induction n with
 |zero=>intro l h;simp at h;subst h;rfl
 |succ n ih =>
  intro l h
  cases l with
  |nil=>simp at h
  |cons a l =>
   have:l.length=n:=by simpa using h
   unfold V6
   simp[ih l this]
theorem ZnE (l:List Int):((l.map (AV.int .i64)).map AV.cells).flatten=l.map (AV.int .i64):=by
 induction l with
 |nil=>rfl
 |cons a l ih=>simp[AV.cells]at ih ⊢;exact ih
theorem ZmO (bytes:Nat)(hb:256*(bytes+1)≤140737488355328)(z:AV)(hz:z.known=true)(hzl:z.cells.length=1)(H:Hp):JD 1 bytes false z (.int .i64 256) (.int .i64 256) H=some (.rs false 1 H.length 0 256 256,H++[.cells ((List.replicate 256 z.cells).flatten)]):=by
 have hf:fits 256 bytes=true:=by simpa[fits]using hb
 unfold JD
 simp only
 rw[if_pos ⟨by decide,by decide,hz,hzl,by decide,hf⟩,if_neg (by decide)]
 rfl
theorem Znr {k:Nat}{x:AV}{l:List AV}(h:Sl k x l)(H:Hp):elems k x H=some l:=by
 rcases h with ⟨rfl,rfl⟩|⟨tok,rfl⟩
 ·rfl
 ·simp[elems]
theorem Zk7 {x:AV}{l:List Int}(h:Sl 1 x (l.map (AV.int .i64))){H:Hp}{o n:Nat}{z:List AV}(ho:H[o]?=some (.cells z))(hz:z.length=n)(hl:l.length=n)(hn:0<n) :
 NJ 1 (.rs false 1 o 0 n n) x H=some (.int .i64 n,H.set o (.cells (l.map (AV.int .i64)))):=by
 unfold NJ
 simp only[Znr h H]
 rw[if_neg (by intro e;have:=congrArg List.length e;simp at this;simp[this]at hl;omega),if_pos (by simp;omega)]
 simp only[ho]
 rw[if_pos (by simp;omega)]
 simp only[List.length_map,hl,splice,List.take_zero,List.nil_append,ZnE]
 rw[List.drop_eq_nil_iff.2 (by simp;omega)]
 simp
theorem Zkz (H:Hp)(n f:Nat)(ag:Bool)(k o off len cap:Nat):Z9 H n (f+1) (.rs ag k o off len cap)=if o<n then some (.rs ag k o off len cap) else
 match elems k (.rs ag k o off len cap) H with
 |some l=>match l.mapM (Z9 H n f) with
  |some l=>some (.vs k .no l)
  |none=>none
 |none=>none:=(Eq.refl _).trans (Eq.refl _)
def Y4 (L:Loc):Loc:=if (Xu L != 0)=true then defL else L
theorem DX {f:List AV→Hp→Z3}{a a' v v':AV}{H H1:Hp}(ha:Z9 [] 0 6 a=some a')(hc:f [a'] []=some (v,H1))(hv:Z9 H1 0 6 v=some v'):Ze f [a] H=some (v',H):=by
 unfold Ze
 simp[ha,hc,hv]
theorem checked {L:Loc}(h:(Xu L != 0)=false):L.w.length=256∧L.lo.length=256∧L.up.length=256:=by
 simp only[Xu,bne_eq_false_iff_eq]at h
 split at h
 ·split at h
  ·cases h
  ·rename_i h1
   simp only[Bool.or_eq_true,bne_iff_ne,ne_eq,not_or,Decidable.not_not]at h1
   exact h1
 ·cases h
theorem M0 {H1:Hp}{x c e x':AV}{L:Loc}(hx:Z9 H1 0 5 x=some x')(hx':Sl 1 x' (L.w.map (AV.int .i64)))(hc:Sl 5 c (L.cls.map Vm))(he:Sl 2 e (L.els.map Jk)) :
 ∃ a',Z9 H1 0 6 (.agg (L.cells x c e))=some a'∧LocAV a' L:=by
 obtain⟨c',hc1,hc2⟩:=hc.close (H:=H1) (n:=0) (f:=4) (fun y hy=>by obtain⟨m,_,rfl⟩:=List.mem_map.1 hy;exact NM m H1 0 2)
 obtain⟨e',he1,he2⟩:=he.close (H:=H1) (n:=0) (f:=4) (fun y hy=>by obtain⟨m,_,rfl⟩:=List.mem_map.1 hy;exact EF m H1 0 2)
 refine⟨.agg (L.cells x' c' e'),?_,x',c',e',rfl,hx',hc2,he2⟩
 have:(L.cells x c e).mapM (Z9 H1 0 5)=some (L.cells x' c' e'):=by
  simp only[Loc.cells,List.mapM_cons,hx,hc1,he1,List.mapM_nil]
  rfl
 rw[KW,this]
theorem Zc7 {a:AV}{L:Loc}(h:LocAV a L)(hok:LocOk L)(H:Hp):∃ a',Ze WW [a] H=some (a',H)∧LocAV a' (Y4 L):=by
 obtain⟨a1,h1,h2⟩:=h.close [] 0 2
 have hck:=fun H=>(Zdi h2 hok H).1
 obtain⟨x,c,e,rfl,hx,hc,he⟩:=h2
 obtain⟨d,hd1,hd2⟩:=ZeR [AObj.cells (L.cells x c e),.cells [(.str []),.nils,(.str []),(.str []),.nils,.nils]]
 unfold Y4
 cases hb:(Xu L != 0) with
 |true =>
  obtain⟨dx,dc,de,rfl,hdx,hdc,hde⟩:=hd2
  have hrun:WW [.agg (L.cells x c e)] []=some (.agg (defL.cells dx dc de),[AObj.cells (L.cells x c e),.cells (defL.cells dx dc de)]):=by
   rw[Rv]
   unfold DP
   have hl:Z4 true 6 (.ptr 0 0) [AObj.cells (L.cells x c e),.cells [(.str []),.nils,(.str []),(.str []),.nils,.nils]]=some (.agg (L.cells x c e)):=by simp[Z4,Go.Am.apart,Loc.cells]
   have hst:Zh 6 (.ptr 1 0) (.agg (defL.cells dx dc de)) [AObj.cells (L.cells x c e),.cells [(.str []),.nils,(.str []),(.str []),.nils,.nils]]=some (.tuple [],[AObj.cells (L.cells x c e),.cells (defL.cells dx dc de)]):=by simp[Zh,Xe,AV.known,AV.cells,Loc.cells,splice]
   have hl2:Z4 true 6 (.ptr 1 0) [AObj.cells (L.cells x c e),.cells (defL.cells dx dc de)]=some (.agg (defL.cells dx dc de)):=by simp[Z4,Go.Am.apart,Loc.cells]
   simp only[go_sem,List.nil_append,List.length_nil,List.length_cons,List.cons_append,Nat.zero_add,hl,hck,hb,hd1,hst,hl2]
  obtain⟨dx',hdx1,hdx2⟩:=hdx.close (H:=[AObj.cells (L.cells x c e),.cells (defL.cells dx dc de)]) (n:=0) (f:=4) (fun y hy=>by obtain⟨m,_,rfl⟩:=List.mem_map.1 hy;rfl)
  obtain⟨a',q1,q2⟩:=M0 hdx1 hdx2 hdc hde
  exact⟨a',DX h1 hrun q1,by simpa using q2⟩
 |false =>
  obtain⟨hw,hlo,hup⟩:=checked hb
  have hrun:WW [.agg (L.cells x c e)] []=some (.agg (L.cells (.rs false 1 2 0 256 256) c e),[AObj.cells (L.cells (.rs false 1 2 0 256 256) c e),.cells (L.cells (.rs false 1 2 0 256 256) c e),.cells (L.w.map (AV.int .i64))]):=by
   rw[Rv]
   unfold DP
   have hl:Z4 true 6 (.ptr 0 0) [AObj.cells (L.cells x c e),.cells [(.str []),.nils,(.str []),(.str []),.nils,.nils]]=some (.agg (L.cells x c e)):=by simp[Z4,Go.Am.apart,Loc.cells]
   have hmk:=ZmO 8 (by decide) (.int .i64 0) rfl rfl [AObj.cells (L.cells x c e),.cells [(.str []),.nils,(.str []),(.str []),.nils,.nils]]
   have hzl:((List.replicate 256 (AV.int .i64 0).cells).flatten).length=256:=by simp[AV.cells]
   generalize ((List.replicate 256 (AV.int .i64 0).cells).flatten)=z at hmk hzl
   simp only[List.length_cons,List.length_nil,List.cons_append,List.nil_append]at hmk
   have hl1:Z4 false 1 (.ptr 0 1) [AObj.cells (L.cells x c e),.cells [(.str []),.nils,(.str []),(.str []),.nils,.nils],.cells z]=some x:=by simp[Z4,Go.Am.apart,Loc.cells]
   have hcp:=Zk7 hx (H:=[AObj.cells (L.cells x c e),.cells [(.str []),.nils,(.str []),(.str []),.nils,.nils],.cells z]) (o:=2) rfl hzl hw (by omega)
   simp only[List.set_cons_succ,List.set_cons_zero]at hcp
   have hs1:Zh 1 (.ptr 0 1) (.rs false 1 2 0 256 256) [AObj.cells (L.cells x c e),.cells [(.str []),.nils,(.str []),(.str []),.nils,.nils],.cells (L.w.map (AV.int .i64))]=some (.tuple [],[AObj.cells (L.cells (.rs false 1 2 0 256 256) c e),.cells [(.str []),.nils,(.str []),(.str []),.nils,.nils],.cells (L.w.map (AV.int .i64))]):=by simp[Zh,Xe,AV.known,AV.cells,Loc.cells,splice]
   have hl3:Z4 true 6 (.ptr 0 0) [AObj.cells (L.cells (.rs false 1 2 0 256 256) c e),.cells [(.str []),.nils,(.str []),(.str []),.nils,.nils],.cells (L.w.map (AV.int .i64))]=some (.agg (L.cells (.rs false 1 2 0 256 256) c e)):=by simp[Z4,Go.Am.apart,Loc.cells]
   have hs2:Zh 6 (.ptr 1 0) (.agg (L.cells (.rs false 1 2 0 256 256) c e)) [AObj.cells (L.cells (.rs false 1 2 0 256 256) c e),.cells [(.str []),.nils,(.str []),(.str []),.nils,.nils],.cells (L.w.map (AV.int .i64))]=some (.tuple [],[AObj.cells (L.cells (.rs false 1 2 0 256 256) c e),.cells (L.cells (.rs false 1 2 0 256 256) c e),.cells (L.w.map (AV.int .i64))]):=by simp[Zh,Xe,AV.known,AV.cells,Loc.cells,splice]
   have hl4:Z4 true 6 (.ptr 1 0) [AObj.cells (L.cells (.rs false 1 2 0 256 256) c e),.cells (L.cells (.rs false 1 2 0 256 256) c e),.cells (L.w.map (AV.int .i64))]=some (.agg (L.cells (.rs false 1 2 0 256 256) c e)):=by simp[Z4,Go.Am.apart,Loc.cells]
   simp only[go_sem,List.nil_append,List.length_nil,List.length_cons,List.cons_append,Nat.zero_add,hl,hck,hb,AG,hmk,hl1,hcp,hs1,hl3,hs2,hl4]
  have hrs:Z9 [AObj.cells (L.cells (.rs false 1 2 0 256 256) c e),.cells (L.cells (.rs false 1 2 0 256 256) c e),.cells (L.w.map (AV.int .i64))] 0 5 (.rs false 1 2 0 256 256)=some (.vs 1 .no (L.w.map (AV.int .i64))):=by
   have hel:elems 1 (.rs false 1 2 0 256 256) [AObj.cells (L.cells (.rs false 1 2 0 256 256) c e),.cells (L.cells (.rs false 1 2 0 256 256) c e),.cells (L.w.map (AV.int .i64))]=some (L.w.map (AV.int .i64)):=by
    simp[elems,hw]
    exact Zb7 256 _ (by simp[hw])
   rw[Zkz,if_neg (by omega),hel]
   simp only
   rw[Ic (fun y hy=>by obtain⟨m,_,rfl⟩:=List.mem_map.1 hy;rfl)]
  obtain⟨a',q1,q2⟩:=M0 hrs (.inr ⟨.no,rfl⟩) hc he
  exact⟨a',DX h1 hrun q1,by simpa using q2⟩
theorem Zh7 {a:AV}{L:Loc}(h:LocAV a L)(hok:LocOk L)(H:Hp):∃ a',Ze KN [a] H=some (a',H)∧LocAV a' (Y4 L):=by
 obtain⟨a1,h1,h2⟩:=h.close [] 0 2
 have hck:=fun H=>(Zdi h2 hok H).2
 obtain⟨x,c,e,rfl,hx,hc,he⟩:=h2
 obtain⟨d,hd1,hd2⟩:=C1 [AObj.cells (L.cells x c e),.cells [(.str []),.nils,(.str []),(.str []),.nils,.nils]]
 unfold Y4
 have hl:Z4 true 6 (.ptr 0 0) [AObj.cells (L.cells x c e),.cells [(.str []),.nils,(.str []),(.str []),.nils,.nils]]=some (.agg (L.cells x c e)):=by simp[Z4,Go.Am.apart,Loc.cells]
 cases hb:(Xu L != 0) with
 |true =>
  obtain⟨dx,dc,de,rfl,hdx,hdc,hde⟩:=hd2
  have hrun:KN [.agg (L.cells x c e)] []=some (.agg (defL.cells dx dc de),[AObj.cells (L.cells x c e),.cells (defL.cells dx dc de)]):=by
   rw[L9]
   unfold Mn
   have hst:Zh 6 (.ptr 1 0) (.agg (defL.cells dx dc de)) [AObj.cells (L.cells x c e),.cells [(.str []),.nils,(.str []),(.str []),.nils,.nils]]=some (.tuple [],[AObj.cells (L.cells x c e),.cells (defL.cells dx dc de)]):=by simp[Zh,Xe,AV.known,AV.cells,Loc.cells,splice]
   have hl2:Z4 true 6 (.ptr 1 0) [AObj.cells (L.cells x c e),.cells (defL.cells dx dc de)]=some (.agg (defL.cells dx dc de)):=by simp[Z4,Go.Am.apart,Loc.cells]
   simp only[go_sem,List.nil_append,List.length_nil,List.length_cons,List.cons_append,Nat.zero_add,hl,hck,hb,hd1,hst,hl2]
  obtain⟨dx',hdx1,hdx2⟩:=hdx.close (H:=[AObj.cells (L.cells x c e),.cells (defL.cells dx dc de)]) (n:=0) (f:=4) (fun y hy=>by obtain⟨m,_,rfl⟩:=List.mem_map.1 hy;rfl)
  obtain⟨a',q1,q2⟩:=M0 hdx1 hdx2 hdc hde
  exact⟨a',DX h1 hrun q1,by simpa using q2⟩
 |false =>
  have hrun:KN [.agg (L.cells x c e)] []=some (.agg (L.cells x c e),[AObj.cells (L.cells x c e),.cells (L.cells x c e)]):=by
   rw[L9]
   unfold Mn
   have hst:Zh 6 (.ptr 1 0) (.agg (L.cells x c e)) [AObj.cells (L.cells x c e),.cells [(.str []),.nils,(.str []),(.str []),.nils,.nils]]=some (.tuple [],[AObj.cells (L.cells x c e),.cells (L.cells x c e)]):=by simp[Zh,Xe,AV.known,AV.cells,Loc.cells,splice]
   have hl2:Z4 true 6 (.ptr 1 0) [AObj.cells (L.cells x c e),.cells (L.cells x c e)]=some (.agg (L.cells x c e)):=by simp[Z4,Go.Am.apart,Loc.cells]
   simp only[go_sem,List.nil_append,List.length_nil,List.length_cons,List.cons_append,Nat.zero_add,hl,hck,hb,ZaO,hst,hl2]
  obtain⟨x',hx1,hx2⟩:=hx.close (H:=[AObj.cells (L.cells x c e),.cells (L.cells x c e)]) (n:=0) (f:=4) (fun y hy=>by obtain⟨m,_,rfl⟩:=List.mem_map.1 hy;rfl)
  obtain⟨a',q1,q2⟩:=M0 hx1 hx2 hc he
  exact⟨a',DX h1 hrun q1,by simpa using q2⟩
end Go.Am
