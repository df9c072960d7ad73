/-
  Lists of strings in the machine.
-/
import Derived.Test.YtehanadfidoodaaGreatDoorNkSx
import Derived.Test.YtehanadfidoodaaGreatDoorNkEx
import Derived.Test.YtehanadfidoodaaGreatDoorNkGMx
namespace Go.Am
set_option linter.unusedSimpArgs false
set_option linter.unusedVariables false
set_option linter.unusedSectionVars false
set_option maxRecDepth 100000
abbrev Zj:=List UInt8
abbrev SS (x:AV)(l:List Zj):Prop:=Sl 1 x (l.map AV.str)
theorem SS.len {x:AV}{l:List Zj}(h:SS x l)(e:Nat):Zk (.slice e) x=some (.int .i64 (l.length:Int)):=by
 have:=Sl.len h e
 rwa [List.length_map]at this
theorem SS.idx {x:AV}{l:List Zj}(h:SS x l){i:Nat}{s:Zj}(hi:l[i]?=some s):Zn 1 x (.int .i64 (i:Int))=some (.vp [.str s]):=Sl.idx h (c:=.str s) (by simp[hi])
theorem SS.closed {x:AV}{l:List Zj}(h:SS x l)(H:Hp)(n f:Nat):∃ x',Z9 H n (f+2) x=some x'∧SS x' l :=
 Sl.close h (f:=f+1) (fun y hy=>by obtain⟨m,_,rfl⟩:=List.mem_map.1 hy;rfl)
theorem SS.lo {x:AV}{l:List Zj}(h:SS x l){n:Nat}(hn:n≤l.length):∃ x',YE 1 x (some (.int .i64 (n:Int))) none none=some x'∧SS x' (l.drop n):=by
 rcases h with ⟨rfl,h0⟩|⟨tok,rfl⟩
 ·have:l=[]:=List.map_eq_nil_iff.1 h0
  subst this
  have hn0:n=0:=by simpa using hn
  subst hn0
  exact⟨.nils,ZaX 1 .i64,.inl ⟨rfl,rfl⟩⟩
 ·exact⟨_,Zid 1 tok .i64 (by omega) (by simp;omega),.inr ⟨tok,by simp⟩⟩
theorem Zic {l:List AV}{n:Nat}(z:Nat)(t:Tok)(h1:n≤l.length):∃ t',YE z (.vs z t l) none (some (.int .i64 (n:Int))) none=some (.vs z t' (l.take n)):=by
 refine⟨if n=l.length then t else .no,?_⟩
 simp only[YE]
 delta YO
 simp[XI,h1]
theorem SS.hi {x:AV}{l:List Zj}(h:SS x l){n:Nat}(hn:n≤l.length):∃ x',YE 1 x none (some (.int .i64 (n:Int))) none=some x'∧SS x' (l.take n):=by
 rcases h with ⟨rfl,h0⟩|⟨tok,rfl⟩
 ·have:l=[]:=List.map_eq_nil_iff.1 h0
  subst this
  have hn0:n=0:=by simpa using hn
  subst hn0
  refine⟨.nils,?_,.inl ⟨rfl,by simp⟩⟩
  simp only[YE]
  delta YO
  simp[XI]
 ·obtain⟨t',h1⟩:=Zic 1 tok (l:=l.map AV.str) (n:=n) (by simp;omega)
  exact⟨_,h1,.inr ⟨t',by simp⟩⟩
theorem SS.elems {x:AV}{l:List Zj}(h:SS x l)(H:Hp):elems 1 x H=some (l.map AV.str):=by
 rcases h with ⟨rfl,h0⟩|⟨tok,rfl⟩
 ·rw[h0];rfl
 ·rfl
abbrev RS (H:Hp)(x:AV)(l:List Zj):Prop:=RowN 0 H 1 x (l.map AV.str)
theorem RS.app {H:Hp}{x:AV}{l:List Zj}(h:RS H x l){y:AV}{m:List Zj}(hy:SS y m)(hl:l.length+m.length≤4194304):∃ x' H',Y6 1 16 x y H=some (x',H')∧RS H' x' (l++m):=by
 obtain⟨x',H',q1,q2,_,_,_⟩:=RowN.app h (Nat.zero_le _) 16 y (m.map AV.str) (SS.elems hy H) (by simp;omega)
 exact⟨x',H',q1,by show RowN 0 H' 1 x' ((l++m).map AV.str);rw[List.map_append];exact q2⟩
theorem B2 (s:Zj):(ZF 1 [(0,AV.str s)] [(.str [])]).map (AV.vs 1 .clip)=some (.vs 1 .clip [.str s]):=rfl
theorem Zfr (s:Zj):SS (.vs 1 .clip [.str s]) [s]:=.inr ⟨.clip,rfl⟩
theorem RS.done {H:Hp}{x:AV}{l:List Zj}(h:RS H x l)(H1:Hp):∃ x',Z9 H1 0 6 x=some x'∧SS x' l:=SS.closed h.sl H1 0 4
abbrev Bu (l:List Zj):Prop:=∀ s∈l,s.length≤1048576
theorem Zl1 {f:List AV→Hp→Z3}{a a' v v':AV}{H H1:Hp}(ha:Z9 [] 0 6 a=some a')(hc:f [a'] []=some (v,H1))(hv:Z9 H1 0 6 v=some v'):Ze f [a] H=some (v',H) :=
 DW (args':=[a']) (by rw[List.mapM_cons,ha];rfl) hc hv
theorem Er {x:AV}{l:List Zj}(h:SS x l)(hl:l.length≤1048576)(H:Hp):∃ y,Ze Yc [x] H=some (y,H)∧SS y l:=by
 obtain⟨x',h1,h2⟩:=SS.closed h [] 0 4
 suffices hs:∃ y H1,Yc [x'] []=some (y,H1)∧SS y l by
  obtain⟨y,H1,q1,q2⟩:=hs
  obtain⟨y',q3,q4⟩:=SS.closed q2 H1 0 4
  exact⟨y',Zl1 h1 q1 q3,q4⟩
 rw[Jz]
 unfold V5
 have h2':=h2
 rcases h2 with ⟨rfl,h0⟩|⟨tok,rfl⟩
 ·have:l=[]:=List.map_eq_nil_iff.1 h0
  subst this
  exact⟨.nils,[],rfl,.inl ⟨rfl,rfl⟩⟩
 ·have e1:Yj (.slice 9) .eql (.vs 1 tok (l.map AV.str)) .nils=some (.bool false):=rfl
  have e2:(ZF 1 [] []).map (AV.vs 1 .clip)=some (.vs 1 .clip []):=rfl
  simp only[e1,go_sem,Jp,e2,Y6,SS.elems h2']
  unfold Yo
  have hf:fits (([]:List AV).length+(l.map AV.str).length) 16=true:=by simp[fits];omega
  simp only[hf,and_self,if_true]
  by_cases h0:l.map AV.str=[]
  ·exact⟨.vs 1 .clip [],[],by simp[h0,U8],.inr ⟨.clip,by rw[h0]⟩⟩
  ·refine⟨.vs 1 (.own 0 l.length) (l.map AV.str),[.tok l.length],by simp[h0,U8],.inr ⟨_,rfl⟩⟩
end Go.Am
