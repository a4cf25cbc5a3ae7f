/- A part of the proof: rules for walks, and contracts of functions (3). -/
import Derived.Test.YtcjkndjjbjoehaaXTrB
import Derived.Laws.MakeOwn
import Derived.Lib.SliceRun
import Derived.Recover
set_option linter.unusedVariables false
set_option linter.unusedSimpArgs false
set_option maxRecDepth 100000
set_option maxHeartbeats 2000000
namespace Go.Proofs.Ytcjkndjjbjoehaa
section
variable {α:Type} {lt:α→α→Bool}
theorem swp_at {P M Q:List α} {x y:α}:((P++x::(M++y::Q)).set P.length y).set (P.length+1+M.length) x=P++y::(M++x::Q):=by
 rw [List.set_append_right _ _ (Nat.le_refl _),Nat.sub_self,List.set_cons_zero,List.set_append_right _ _ (by omega),show P.length+1+M.length-P.length=M.length+1 by omega,List.set_cons_succ,
   List.set_append_right _ _ (Nat.le_refl _),Nat.sub_self,List.set_cons_zero]
theorem get_at {P Q:List α} {x:α} {i:Nat} (h:P.length=i):(P++x::Q)[i]?=some x:=by
 subst h;simp
theorem get_at2 {P M Q:List α} {x y:α} {i:Nat} (h:P.length+1+M.length=i):(P++x::(M++y::Q))[i]?=some y:=by
 subst h
 rw [List.getElem?_append_right (by omega),show P.length+1+M.length-P.length=M.length+1 by omega,List.getElem?_cons_succ]
 exact get_at rfl
def swr (P X M Y Q:List α) (k:Nat):List α:=P++(Y.take k++(X.drop k++(M++(X.take k++(Y.drop k++Q)))))
theorem swr_zero (P X M Y Q:List α):swr P X M Y Q 0=P++(X++(M++(Y++Q))):=by
 unfold swr;simp
theorem swr_all {P X M Y Q:List α} {n:Nat} (hx:X.length=n) (hy:Y.length=n):swr P X M Y Q n=P++(Y++(M++(X++Q))):=by
 unfold swr
 rw [List.take_of_length_le (by omega),List.take_of_length_le (by omega),List.drop_of_length_le (by omega),List.drop_of_length_le (by omega)]
 simp
theorem swr_step {P X M Y Q:List α} {n k:Nat} (hx:X.length=n) (hy:Y.length=n) (hk:k<n):∃ x y,(swr P X M Y Q k)[P.length+k]?=some x∧(swr P X M Y Q k)[P.length+n+M.length+k]?=some y ∧
   ((swr P X M Y Q k).set (P.length+k) y).set (P.length+n+M.length+k) x=swr P X M Y Q (k+1):=by
 obtain ⟨x,hx1⟩:∃ x,X.drop k=x::X.drop (k+1):=⟨_,List.drop_eq_getElem_cons (by omega)⟩
 obtain ⟨y,hy1⟩:∃ y,Y.drop k=y::Y.drop (k+1):=⟨_,List.drop_eq_getElem_cons (by omega)⟩
 have hx2:X.take (k+1)=X.take k++[x]:=by
   have h1:X[k]?=some x:=by
     have:=congrArg (·[0]?) hx1
     simpa using this
   rw [List.take_add_one,h1];rfl
 have hy2:Y.take (k+1)=Y.take k++[y]:=by
   have h1:Y[k]?=some y:=by
     have:=congrArg (·[0]?) hy1
     simpa using this
   rw [List.take_add_one,h1];rfl
 have e:swr P X M Y Q k=(P++Y.take k)++x::((X.drop (k+1)++(M++X.take k))++y::(Y.drop (k+1)++Q)):=by
   unfold swr;rw [hx1,hy1];simp only [List.append_assoc,List.cons_append]
 have e2:swr P X M Y Q (k+1)=(P++Y.take k)++y::((X.drop (k+1)++(M++X.take k))++x::(Y.drop (k+1)++Q)):=by
   unfold swr;rw [hx2,hy2];simp only [List.append_assoc,List.cons_append,List.nil_append]
 have l1:(P++Y.take k).length=P.length+k:=by simp;omega
 have l2:(P++Y.take k).length+1+(X.drop (k+1)++(M++X.take k)).length=P.length+n+M.length+k:=by simp;omega
 refine ⟨x,y,?_,?_,?_⟩
 · rw [e];exact get_at l1
 · rw [e];exact get_at2 l2
 · rw [e,e2,← l2,← l1];exact swp_at
theorem ins_step {P S S2 Q:List α} {z x:α}:(((P++(S++[z]))++x::(S2++Q)).set (P.length+S.length+1) z).set (P.length+S.length) x=(P++S)++x::((z::S2)++Q):=by
 have e:(P++(S++[z]))++x::(S2++Q)=(P++S)++z::([]++x::(S2++Q)):=by simp only [List.append_assoc,List.cons_append,List.nil_append]
 have l1:(P++S).length=P.length+S.length:=by simp
 have l2:(P++S).length+1+([]:List α).length=P.length+S.length+1:=by simp
 have h:=swp_at (P:=P++S) (M:=[]) (Q:=S2++Q) (x:=z) (y:=x)
 rw [l2,l1] at h
 rw [e,List.set_comm _ _ (by omega),h]
 simp only [List.cons_append,List.nil_append]
theorem ins_done (hw:Wo lt) {S1 S2:List α} {x:α} (hs:Srt lt (S1++S2)) (h1:S1=[]∨∃ S z,S1=S++[z]∧lt x z=false) (h2:∀ y∈S2,lt x y=true):mrg lt (S1++S2) [x]=S1++x::S2:=by
 have h:=mrg_split (lt:=lt) S1 [] S2 [x] (fun y hy z hz=>?_) (by simp)
 · have h3:mrg lt S2 [x]=[x]++S2:=mrg_swap (fun y hy z hz=>by rw [List.mem_singleton.1 hy];exact h2 z hz)
   rw [List.nil_append,mrg_right,h3] at h
   exact h
 · rw [List.mem_singleton.1 hz]
   rcases h1 with rfl|⟨S,z,rfl,h3⟩
   · cases hy
   · rcases List.mem_append.1 hy with hy|hy
     · have hp:=(List.pairwise_append.1 (List.pairwise_append.1 hs).1).2.2 y hy z (List.mem_singleton.2 rfl)
       exact hw.tr _ _ _ hp h3
     · rw [List.mem_singleton.1 hy];exact h3
theorem sym_pick (hw:Wo lt) {U V:List α} (hU:Srt lt U) (hV:Srt lt V) {h i lo hi:Nat} (hi0:lo≤i) (hi1:i≤hi) (hlo:(lo=0∨V.length+lo=h)) (hhi:(hi=h∨hi=U.length)) (hh:hi≤U.length) (hh2:hi≤h) (hh3:h≤V.length+lo)
   (h1:i=lo∨∃ x y,U[i-1]?=some x∧V[h-i]?=some y∧lt y x=false) (h2:i=hi∨∃ x y,U[i]?=some x∧V[h-1-i]?=some y∧lt y x=true) :
   mrg lt U V=mrg lt (U.take i) (V.take (h-i))++mrg lt (U.drop i) (V.drop (h-i)):=by
 have key:=mrg_split (lt:=lt) (U.take i) (V.take (h-i)) (U.drop i) (V.drop (h-i)) (fun x hx y hy=>?_) (fun y hy x hx=>?_)
 · rw [List.take_append_drop,List.take_append_drop] at key
   exact key
 · obtain ⟨k,hk,rfl⟩:=List.getElem_of_mem hx
   obtain ⟨j,hj,rfl⟩:=List.getElem_of_mem hy
   rw [List.getElem_take,List.getElem_drop]
   simp only [List.length_take,List.length_drop] at hk hj
   rcases h1 with rfl|⟨x,y,hx1,hy1,hxy⟩
   · omega
   · obtain ⟨hx2,rfl⟩:=List.getElem?_eq_some_iff.1 hx1
     obtain ⟨hy2,rfl⟩:=List.getElem?_eq_some_iff.1 hy1
     have a1:lt U[i-1] U[k]=false:=by
       by_cases hki:k=i-1
       · subst hki;exact hw.irr _
       · exact List.pairwise_iff_getElem.1 hU k (i-1) (by omega) hx2 (by omega)
     have a2:lt V[h-i+j] V[h-i]=false:=by
       by_cases hj0:j=0
       · subst hj0;exact hw.irr _
       · exact List.pairwise_iff_getElem.1 hV (h-i) (h-i+j) hy2 (by omega) (by omega)
     exact hw.tr _ _ _ (hw.tr _ _ _ a1 hxy) a2
 · obtain ⟨k,hk,rfl⟩:=List.getElem_of_mem hx
   obtain ⟨j,hj,rfl⟩:=List.getElem_of_mem hy
   rw [List.getElem_take,List.getElem_drop]
   simp only [List.length_take,List.length_drop] at hk hj
   rcases h2 with rfl|⟨x,y,hx1,hy1,hxy⟩
   · omega
   · obtain ⟨hx2,rfl⟩:=List.getElem?_eq_some_iff.1 hx1
     obtain ⟨hy2,rfl⟩:=List.getElem?_eq_some_iff.1 hy1
     have a1:lt U[i+k] U[i]=false:=by
       by_cases hk0:k=0
       · subst hk0;exact hw.irr _
       · exact List.pairwise_iff_getElem.1 hU i (i+k) hx2 (by omega) (by omega)
     have a2:lt V[h-1-i] V[j]=false:=by
       by_cases hjh:j=h-1-i
       · subst hjh;exact hw.irr _
       · exact List.pairwise_iff_getElem.1 hV j (h-1-i) (by omega) hy2 (by omega)
     cases hc:lt V[j] U[i+k] with
     | true=>rfl
     | false=>
       have b1:=hw.tr _ _ _ a1 hc
       have b2:=hw.tr _ _ _ b1 a2
       rw [hxy] at b2;cases b2
inductive Bl (lt:α→α→Bool) (s:Nat):List α→List α→Prop
 | last {L:List α} (h:L.length≤s):Bl lt s L (srt lt L)
 | more {A L D:List α} (h:A.length=s) (k:Bl lt s L D):Bl lt s (A++L) (srt lt A++D)
inductive Pf (lt:α→α→Bool) (s:Nat):List α→List α→Prop
 | zero:Pf lt s [] []
 | snoc {A P B:List α} (k:Pf lt s A P) (h:B.length=s):Pf lt s (A++B) (P++srt lt B)
theorem Pf.bl {s:Nat} {A P:List α} (h:Pf lt s A P):∀ {R E:List α},Bl lt s R E→Bl lt s (A++R) (P++E):=by
 induction h with
 | zero=>intro R E h;exact h
 | snoc k hB ih=>
   intro R E h
   rw [List.append_assoc,List.append_assoc]
   exact ih (.more hB h)
theorem Pf.len {s:Nat} {A P:List α} (h:Pf lt s A P):P.length=A.length:=by
 induction h with
 | zero=>rfl
 | snoc k hB ih=>rw [List.length_append,List.length_append,ih,srt_len]
theorem Bl.len {s:Nat} {A P:List α} (h:Bl lt s A P):P.length=A.length:=by
 induction h with
 | last h=>exact srt_len _
 | more h k ih=>rw [List.length_append,List.length_append,ih,srt_len]
theorem Bl.small {s:Nat} {L D:List α} (h:Bl lt s L D) (hl:L.length≤s):D=srt lt L:=by
 cases h with
 | last _=>rfl
 | more hA k=>
   rename_i A L D
   have hL:L.length=0:=by simp at hl;omega
   obtain rfl:=List.length_eq_zero_iff.1 hL
   have:=k.len
   obtain rfl:=List.length_eq_zero_iff.1 this
   simp
theorem Bl.split {s:Nat} {L D:List α} (h:Bl lt s L D) (hl:s<L.length):∃ A R E,A.length=s∧L=A++R∧D=srt lt A++E∧Bl lt s R E:=by
 cases h with
 | last h=>omega
 | more hA k=>exact ⟨_,_,_,hA,rfl,rfl,k⟩
theorem Bl.split' {s:Nat} {L D:List α} (h:Bl lt s L D) (hl:s≤L.length):∃ A R E,A.length=s∧L=A++R∧D=srt lt A++E∧Bl lt s R E:=by
 by_cases hs:s<L.length
 · exact h.split hs
 · refine ⟨L,[],[],by omega,by simp,by rw [h.small (by omega)];simp,?_⟩
   exact .last (Nat.zero_le _)
end
end Go.Proofs.Ytcjkndjjbjoehaa
namespace Go.Proofs.Ytcjkndjjbjoehaa
open Go.RowKit
attribute [local irreducible] TR OQ OS OX Rd T TL GX GL AL AI RV wpG SAny Calls
structure Sh where
 who:Int
 fr:Int
 to:Int
end Go.Proofs.Ytcjkndjjbjoehaa
namespace Go.Proofs.Ytcjkndjjbjoehaa
def shOk (x:Sh):Prop:=(0≤x.who∧x.who≤5)∧0≤x.fr∧x.fr<x.to∧x.to≤1000000
instance (x:Sh):Decidable (shOk x):=by unfold shOk;infer_instance
def lap (x y:Sh):Prop:=x.who=y.who∧x.fr<y.to∧y.fr<x.to
instance (x y:Sh):Decidable (lap x y):=by unfold lap;infer_instance
def Ros (l:List Sh):Prop:=(∀ x∈l,shOk x)∧l.Pairwise fun x y=>¬ lap x y
instance (l:List Sh):Decidable (Ros l):=by unfold Ros;infer_instance
/-! Who is tired -/
structure Du where
 most:Int
 rest:Int
 win:Int
 sum:Int
structure Ti where
 kind:Int
 who:Int
 at_:Int
deriving DecidableEq
def duB (d:Du):Prop:=(1≤d.most∧d.most≤100000)∧(0≤d.rest∧d.rest≤100000)∧(1≤d.win∧d.win≤100000)∧0≤d.sum∧d.sum≤d.win
instance (d:Du):Decidable (duB d):=by unfold duB;infer_instance
structure Deal where
 kind:Int
 n:Int
 seats:Int
 price:Int
 leaves:Int
section
variable {α:Type} {lt:α→α→Bool}
theorem get_seg {P U R:List α} {a q:Nat} {x:α} (ha:P.length=a) (h:U[q]?=some x):(P++(U++R))[a+q]?=some x:=by
 subst ha
 have:=(List.getElem?_eq_some_iff.1 h).1
 rw [List.getElem?_append_right (by omega),show P.length+q-P.length=q by omega,List.getElem?_append_left this,h]
theorem get_seg2 {P U V R:List α} {m q:Nat} {x:α} (ha:P.length+U.length=m) (h:V[q]?=some x):(P++(U++(V++R)))[m+q]?=some x:=by
 rw [← List.append_assoc]
 exact get_seg (by simp;omega) h
theorem srt_le (hw:Wo lt) {V:List α} (hV:Srt lt V) {i j:Nat} {x y:α} (hij:i≤j) (hx:V[i]?=some x) (hy:V[j]?=some y):lt y x=false:=by
 obtain ⟨h1,rfl⟩:=List.getElem?_eq_some_iff.1 hx
 obtain ⟨h2,rfl⟩:=List.getElem?_eq_some_iff.1 hy
 by_cases h:i=j
 · subst h;exact hw.irr _
 · exact List.pairwise_iff_getElem.1 hV i j h1 h2 (by omega)
theorem mrg_one (hw:Wo lt) {V:List α} {x:α} {i:Nat} (hV:Srt lt V) (h1:i=0∨∃ y,V[i-1]?=some y∧lt y x=true) (h2:i=V.length∨∃ y,V[i]?=some y∧lt y x=false):mrg lt [x] V=V.take i++x::V.drop i:=by
 have a1:∀ y∈V.take i,lt y x=true:=fun y hy=>by
   obtain ⟨k,hk,rfl⟩:=List.getElem_of_mem hy
   rw [List.getElem_take]
   simp only [List.length_take] at hk
   rcases h1 with h1|⟨z,hz,hzx⟩
   · omega
   · have:=srt_le hw hV (show k≤i-1 by omega) (List.getElem?_eq_getElem (by omega)) hz
     cases hc:lt V[k] x with
     | true=>rfl
     | false=>
       have:=hw.tr _ _ _ hc this
       rw [hzx] at this;cases this
 have a2:∀ y∈V.drop i,lt y x=false:=fun y hy=>by
   obtain ⟨k,hk,rfl⟩:=List.getElem_of_mem hy
   rw [List.getElem_drop]
   simp only [List.length_drop] at hk
   rcases h2 with h2|⟨z,hz,hzx⟩
   · omega
   · exact hw.tr _ _ _ hzx (srt_le hw hV (show i≤i+k by omega) hz (List.getElem?_eq_getElem (by omega)))
 have key:=mrg_split (lt:=lt) [] (V.take i) [x] (V.drop i) (by simp) (fun y hy z hz=>by rw [List.mem_singleton.1 hz];exact a1 y hy)
 have h3:mrg lt [x] (V.drop i)=[x]++V.drop i:=mrg_app (fun y hy z hz=>by rw [List.mem_singleton.1 hy];exact a2 z hz)
 rw [List.nil_append,List.take_append_drop,mrg_nil,h3] at key
 exact key
theorem mrg_last (hw:Wo lt) {U:List α} {y:α} {i:Nat} (hi:i≤U.length) (hU:Srt lt U) (h1:i=0∨∃ x,U[i-1]?=some x∧lt y x=false) (h2:i=U.length∨∃ x,U[i]?=some x∧lt y x=true):mrg lt U [y]=U.take i++y::U.drop i:=by
 have key:=ins_done hw (S1:=U.take i) (S2:=U.drop i) (x:=y) (by rw [List.take_append_drop];exact hU) ?_ ?_
 · rw [List.take_append_drop] at key
   exact key
 · rcases h1 with rfl|⟨x,hx,hyx⟩
   · exact .inl rfl
   · by_cases h0:i=0
     · subst h0;exact .inl rfl
     · right
       refine ⟨U.take (i-1),x,?_,hyx⟩
       have:=List.take_add_one (l:=U) (i:=i-1)
       rw [hx,show i-1+1=i by omega] at this
       exact this
 · intro z hz
   obtain ⟨k,hk,rfl⟩:=List.getElem_of_mem hz
   rw [List.getElem_drop]
   simp only [List.length_drop] at hk
   rcases h2 with h2|⟨x,hx,hyx⟩
   · omega
   · have:=srt_le hw hU (show i≤i+k by omega) hx (List.getElem?_eq_getElem (by omega))
     cases hc:lt y U[i+k] with
     | true=>rfl
     | false=>
       have:=hw.tr _ _ _ this hc
       rw [hyx] at this;cases this
theorem mov_step {P V Q:List α} {k:Nat} {x y:α} (hy:V[k]?=some y):(P++(V.take k++x::(V.drop k++Q)))[P.length+k]?=some x∧(P++(V.take k++x::(V.drop k++Q)))[P.length+k+1]?=some y ∧
   ((P++(V.take k++x::(V.drop k++Q))).set (P.length+k) y).set (P.length+k+1) x=P++(V.take (k+1)++x::(V.drop (k+1)++Q)):=by
 obtain ⟨hk,he⟩:=List.getElem?_eq_some_iff.1 hy
 have e1:V.drop k=y::V.drop (k+1):=by rw [List.drop_eq_getElem_cons hk,he]
 have e2:V.take (k+1)=V.take k++[y]:=by rw [List.take_add_one,hy];rfl
 have l1:(P++V.take k).length=P.length+k:=by simp;omega
 have e:P++(V.take k++x::(V.drop k++Q))=(P++V.take k)++x::([]++y::(V.drop (k+1)++Q)):=by rw [e1];simp only [List.append_assoc,List.cons_append,List.nil_append]
 refine ⟨?_,?_,?_⟩
 · rw [e];exact get_at l1
 · rw [e];exact get_at2 (by rw [l1];simp)
 · have h:=swp_at (P:=P++V.take k) (M:=[]) (Q:=V.drop (k+1)++Q) (x:=x) (y:=y)
   rw [l1] at h
   simp only [List.length_nil,Nat.add_zero] at h
   rw [e,h,e2]
   simp only [List.append_assoc,List.cons_append,List.nil_append]
theorem mov_back {P U Q:List α} {k:Nat} {x y:α} (hx:U[k]?=some x):(P++(U.take (k+1)++y::(U.drop (k+1)++Q)))[P.length+k+1]?=some y∧(P++(U.take (k+1)++y::(U.drop (k+1)++Q)))[P.length+k]?=some x ∧
   ((P++(U.take (k+1)++y::(U.drop (k+1)++Q))).set (P.length+k+1) x).set (P.length+k) y=P++(U.take k++y::(U.drop k++Q)):=by
 obtain ⟨hk,he⟩:=List.getElem?_eq_some_iff.1 hx
 have e1:U.drop k=x::U.drop (k+1):=by rw [List.drop_eq_getElem_cons hk,he]
 have e2:U.take (k+1)=U.take k++[x]:=by rw [List.take_add_one,hx];rfl
 have l1:(P++U.take k).length=P.length+k:=by simp;omega
 have e:P++(U.take (k+1)++y::(U.drop (k+1)++Q))=(P++U.take k)++x::([]++y::(U.drop (k+1)++Q)):=by rw [e2];simp only [List.append_assoc,List.cons_append,List.nil_append]
 refine ⟨?_,?_,?_⟩
 · rw [e];exact get_at2 (by rw [l1];simp)
 · rw [e];exact get_at l1
 · have h:=swp_at (P:=P++U.take k) (M:=[]) (Q:=U.drop (k+1)++Q) (x:=x) (y:=y)
   rw [l1] at h
   simp only [List.length_nil,Nat.add_zero] at h
   rw [e,List.set_comm _ _ (by omega),h,e1]
   simp only [List.append_assoc,List.cons_append,List.nil_append]
end
end Go.Proofs.Ytcjkndjjbjoehaa
namespace Go.Proofs.Ytcjkndjjbjoehaa
open Go.RowKit
section
variable {α:Type} {fx fy:α→Int}
def coC (fx fy:α→Int) (x:α):List Value:=[.int .i64 (fx x),.int .i64 (fy x)]
abbrev coB (fx fy:α→Int) (l:List α):List Value:=(l.map (coC fx fy)).flatten
theorem co_flat_len (l:List α):(coB fx fy l).length=l.length*2:=flat_len (s:=2) (fun _=>rfl) l
theorem co_at {l:List α} {i:Nat} {x:α} (h:l[i]?=some x):(coB fx fy l)[0+i*2]?=some (.int .i64 (fx x))∧(coB fx fy l)[0+i*2+1]?=some (.int .i64 (fy x)):=by
 rw [Nat.zero_add]
 exact ⟨flat_at (f:=coC fx fy) (s:=2) (fun _=>rfl) h (j:=0) rfl,flat_at (f:=coC fx fy) (s:=2) (fun _=>rfl) h (j:=1) rfl⟩
theorem co_set {l:List α} {i:Nat} {x y:α} (h:l[i]?=some x):setL (coB fx fy l) (0+i*2) [.int .i64 (fx y),.int .i64 (fy y)]=coB fx fy (l.set i y):=by
 obtain ⟨hi,hx⟩:=List.getElem?_eq_some_iff.1 h
 have e:l=l.take i++x::l.drop (i+1):=by rw [← hx,← List.drop_eq_getElem_cons hi,List.take_append_drop]
 have e2:l.set i y=l.take i++y::l.drop (i+1):=by
   rw [List.set_eq_take_append_cons_drop,if_pos hi]
 have hA:(coB fx fy (l.take i)).length=i*2:=by rw [co_flat_len,List.length_take];congr 1;omega
 rw [e2,Nat.zero_add]
 have f1:coB fx fy l=coB fx fy (l.take i)++(coC fx fy x++coB fx fy (l.drop (i+1))):=by
   conv=>lhs;rw [e]
   simp only [coB,List.map_append,List.map_cons,List.flatten_append,List.flatten_cons]
 have f2:coB fx fy (l.take i++y::l.drop (i+1))=coB fx fy (l.take i)++(coC fx fy y++coB fx fy (l.drop (i+1))):=by
   simp only [coB,List.map_append,List.map_cons,List.flatten_append,List.flatten_cons]
 rw [f1,f2,setL_eq _ _ _ (by simp only [List.length_append,hA,coC,List.length_cons,List.length_nil];omega),← hA,List.take_left,List.drop_append,List.drop_of_length_le (by omega),List.nil_append,List.append_assoc]
 congr 2
 rw [show (coB fx fy (l.take i)).length+[Value.int .i64 (fx y),.int .i64 (fy y)].length-(coB fx fy (l.take i)).length=2 by simp only [List.length_cons,List.length_nil];omega]
 rfl
structure CmpOk (fx fy:α→Int) (lt:α→α→Bool) (kf:Nat):Prop where
 call:∀ (a:Array Value) (w:World),(callFunc kf a).run Try.prog w=.ok (.enter kf a) w
 cmp:∀ x y:α,∃ o:Int,(∀ w1:World,Calls Try.prog kf #[.agg #[.int .i64 (fx x),.int .i64 (fy x)],.agg #[.int .i64 (fx y),.int .i64 (fy y)]] w1 fun e w'=>e=.returned (.int .i64 o)∧Ext w1 w')∧(o<0↔lt x y=true)
variable {c:Cx} {F:Fr} {H H':Hp} {K:Value→Hp→Prop} {d:Option Tmp} {ty t:TypeId} {pos:String} {af:Array Edge} {gd:Option (Nat×Bool)} {x y:Operand} {a0:Bool} {z0:List Value} {k0:TyK} {g i:Nat} {tg:Tg} {l l':List α} {z:α}
theorem os_storeCo (u:α) (hz:l[i]?=some z) (hl:l.set i u=l') (ht:tyAt c.tys t=some ⟨a0,2,z0,k0⟩) (hx:ev F x=some (.pointer (some ⟨g,0+i*2,none⟩))) (hy:ev F y=some (.agg #[.int .i64 (fx u),.int .i64 (fy u)])) (hp:Pick H g (coB fx fy l) tg H')
   (kk:K undef ((g,coB fx fy l',tg)::H')):OS c ⟨d,.store t x y,ty,pos,af,gd⟩ F H K:=
 store_gen (vs:=[.int .i64 (fx u),.int .i64 (fy u)]) ht hx hy rfl rfl (by simp [Value.oneCell']) hp (by rw [co_flat_len];have:=(List.getElem?_eq_some_iff.1 hz).1;omega) (by rw [co_set hz,hl];exact kk)
end
end Go.Proofs.Ytcjkndjjbjoehaa
namespace Go.Proofs.Ytcjkndjjbjoehaa
open Go.RowKit
attribute [local irreducible] OQ OS OX Rd T TL GX GL AL AI RV wpG SAny Calls
section
variable {c:Cx} {S:WS c.P} {Q:QS} {F:Fr} {H:Hp} {x:Code}
theorem t_loopP {ι:Type} (keep:List Nat) (ch:ι→Fr) (hc:ι→Hp) (Pi:ι→Prop) (μ:ι→Nat) (i0:ι) {G:Fr} (hK:KeepF F keep G) (hF:FrSub F (ch i0)) (hH:HpSub H (hc i0)) (h0:Pi i0)
   (h:∀ i,Pi i→T c S x (thenQ (fun F' H'=>∃ j,Pi j∧μ j<μ i∧FrSub F' (ch j++G)∧HpSub H' (hc j)) Q) (ch i++G) (hc i)):T c S (.loop x) Q F H:=
 t_loop (fun i=>ch i++G) hc Pi μ i0 h0 (hF.append hK.sub) hH h
end
theorem oq_quoL {c:Cx} {F:Fr} {H:Hp} {d:Option Tmp} {ty t t':TypeId} {pos:String} {af:Array Edge} {g:Option (Nat×Bool)} {x y:Operand} {m n k:Int} (hx:ev F x=some (.int .i64 m)) (hy:ev F y=some (.int .i64 n)) (e:m.tdiv n=k∧n≠0∧-9223372036854775808≤k∧k≤9223372036854775807):OQ c ⟨d,.binOp .quo t x y t',ty,pos,af,g⟩ F H (.int .i64 k):=
 (oq_quo hx hy e.2.1 (by rw [e.1];exact ⟨e.2.2.1,e.2.2.2⟩)).as (by rw [e.1])
end Go.Proofs.Ytcjkndjjbjoehaa
namespace Go.Proofs.Ytcjkndjjbjoehaa
open Go.RowKit
theorem SAnyI_lexE {P:Program} {ops:Array Oper} {cov:Array Bool} {Q:Act→World→Prop} {I:World→Prop} (hU:Up I) (hs:Region.noSelect ops=true) (n:Nat):∀ (l:List Nat) (listed:Array Bool) (a:Act) (w0:World),I w0→lexOk ops cov l listed=true→Down ops listed →
   wpGI P ops I (fun a'=>∀ w,Ext w0 w→SAnyI P ops cov I Q n (listedBy l listed) a' w) l a→∀ w,Ext w0 w→SAnyI P ops cov I Q (n+l.length) listed a w
 | [],_,_,_,_,_,_,h=>h
 | i::l,listed,a,w0,hw0,hB,hd,h=>by
   simp only [lexOk,Bool.and_eq_true] at hB
   obtain ⟨⟨⟨hr,hf⟩,hc⟩,hB'⟩:=hB
   have hr':i∈Region.ready .any ops listed:=by simpa using hr
   unfold wpGI at h
   cases ho:ops[i]? with
   | none=>simp only [ho] at h
   | some o=>
     simp only [ho] at h
     by_cases hw:Region.wanted o (yielded ops a.tmps)=true
     · simp only [hw,if_true] at h
       obtain ⟨v,hv,hK⟩:=h
       exact SAnyI_first hU ho (Region.noSelect_spec hs) hc (n+l.length) listed a w0 hw0 hd (Region.free_spec ho hf) hr' (.inl ⟨hw,hv⟩) (SAnyI_lexE hU hs n l _ _ w0 hw0 hB' (hd.set hr') hK)
     · simp only [hw] at h
       exact SAnyI_first hU ho (Region.noSelect_spec hs) hc (n+l.length) listed a w0 hw0 hd (Region.free_spec ho hf) hr' (.inr ⟨by simpa using hw,rfl⟩) (SAnyI_lexE hU hs n l _ _ w0 hw0 hB' (hd.set hr') h)
theorem t_mixZ {c:Cx} {Q:QS} {F:Fr} {H:Hp} {id:Nat} {l ql:List Oper} (q:List Nat) (n:Nat) (hm:c.P.follows .mixedOrders=true) (hB:(Region.noSelect ⟨l⟩ && (n+q.length == (Array.mk l).size) && lexOk ⟨l⟩ #[] q (Array.replicate (Array.mk l).size false))=true) (hq:pickOps l q=some ql)
   (h:GX c ⟨l⟩ ql (fun F'=>AL c ⟨l⟩ #[] [] n (listedBy q (Array.replicate (Array.mk l).size false)) (fun F H=>Q .normal F H) F' H) F []):T c (WS.own c.P) (.region id ⟨l⟩ true) Q F H:=fun D a w ha hw=>by
 show (Code.region id ⟨l⟩ true).wp c.P (cv c Q) a w
 simp only [Bool.and_eq_true,beq_iff_eq] at hB
 obtain ⟨⟨hs,hn⟩,hl⟩:=hB
 have hI:Has c.w0 ⟨c.M,D⟩ [] w:=hw.sub HpSub.nil
 refine wp_region_any hm (wpAny_of_SAnyI (Q:=fun a w=>∃ D F H,Q .normal F H∧Frm D c.N F a∧Has c.w0 ⟨c.M,D⟩ H w) (I:=Has c.w0 ⟨c.M,D⟩ []) (cov:=#[]) (fun _ _ h=>h) _ _ _ _ ?_)
 rw [← hn]
 have key:=SAnyI_lexE (P:=c.P) (cov:=#[]) (Q:=fun a w=>∃ D F H,Q .normal F H∧Frm D c.N F a∧Has c.w0 ⟨c.M,D⟩ H w) (Has.up (M:=⟨c.M,D⟩)) hs n q (Array.replicate (Array.mk l).size false) a w hI hl (Down.none _)
   (wpGI_mono (fun a' ⟨F',h1,h2⟩ w' hw'=>h1 D a' w' h2 (hw.grow hw')) q a (h q (pickOps_spec hq) D a ha)) w.drew (Ext.refl w).drew
 exact hn.symm ▸ key
end Go.Proofs.Ytcjkndjjbjoehaa
namespace Go.Proofs.Ytcjkndjjbjoehaa
open Go.RowKit
attribute [local irreducible] OQ OS OX Rd T TL GX GL AL AI RV wpG SAny Calls
def Bd (m:Int) (a:Pv):Prop:=(-m≤a.x∧a.x≤m)∧(-m≤a.y∧a.y≤m)
theorem mul_le' {a b m:Int} (ha : -m≤a∧a≤m) (hb : -m≤b∧b≤m) : -(m*m)≤a*b∧a*b≤m*m:=by
 have h1:=Int.mul_nonneg (show 0≤m-a by omega) (show 0≤m-b by omega)
 have h2:=Int.mul_nonneg (show 0≤m+a by omega) (show 0≤m+b by omega)
 have h3:=Int.mul_nonneg (show 0≤m-a by omega) (show 0≤m+b by omega)
 have h4:=Int.mul_nonneg (show 0≤m+a by omega) (show 0≤m-b by omega)
 have e1:(m-a)*(m-b)=m*m-m*b-a*m+a*b:=by rw [Int.sub_mul,Int.mul_sub,Int.mul_sub];omega
 have e2:(m+a)*(m+b)=m*m+m*b+a*m+a*b:=by rw [Int.add_mul,Int.mul_add,Int.mul_add];omega
 have e3:(m-a)*(m+b)=m*m+m*b-a*m-a*b:=by rw [Int.sub_mul,Int.mul_add,Int.mul_add];omega
 have e4:(m+a)*(m-b)=m*m-m*b+a*m-a*b:=by rw [Int.add_mul,Int.mul_sub,Int.mul_sub];omega
 omega
theorem step_calls (a b:Pv) (ha:Bd 536870912 a) (hb:Bd 536870912 b) (w:World):Calls Try.prog 144 #[.agg #[.int .i64 a.x,.int .i64 a.y],.agg #[.int .i64 b.x,.int .i64 b.y]] w fun e w'=>e=.returned (.agg #[.int .i64 (Pv.sub b a).x,.int .i64 (Pv.sub b a).y])∧Ext w w':=by
 unfold Bd at ha hb
 refine enterQ (c:=cx w 16) Try.func144 rfl rfl rfl rfl ?_
 repeat' (first|((with_reducible apply oq_id);first|(apply oq_fn;exact rfl;first|exact trivial|(and_intros<;>omega)|omega|skip)|((with_reducible apply oq_load);exact rfl;exact rfl)|((with_reducible apply oq_build);(iterate 3 exact rfl)))|((with_reducible apply tl_id);first|(with_reducible apply tl_nil)|((with_reducible apply u_q);(iterate 4 exact rfl))|((with_reducible apply u_s0);exact rfl;exact rfl)|((with_reducible apply u_s);(iterate 3 exact rfl)))|((with_reducible apply os_id);first|((with_reducible apply os_x);exact rfl)|((with_reducible apply os_storeAgg);(iterate 5 exact rfl)))|((with_reducible apply ox_id);first|((with_reducible apply ox_alloc);exact rfl;intro _)|((with_reducible apply ox_boxAgg);exact rfl;intro _))|((with_reducible apply rd_id);first|(apply Rd.own;(repeat first|exact P0|apply P1);exact rfl;done))|((with_reducible apply t_id);first|(with_reducible apply t_seq)|(apply t_region;kernel_rfl)|(with_reducible apply t_ret))|with_reducible apply q_thenN|exact P0|exact Rdn.zero|apply Rdn.succ|((with_reducible apply Norm.nil);exact rfl)|((with_reducible apply Norm.cons);exact rfl)|(with_reducible apply end_ret)|exact rvs_nil|(with_reducible apply rvs_cons)|((with_reducible apply rv_cellAgg);exact rfl;exact rfl)|exact Nat.le_of_ble_eq_true rfl)
 all_goals rfl
theorem turn_calls (a b:Pv) (ha:Bd 1073741824 a) (hb:Bd 1073741824 b) (w:World):Calls Try.prog 145 #[.agg #[.int .i64 a.x,.int .i64 a.y],.agg #[.int .i64 b.x,.int .i64 b.y]] w fun e w'=>e=.returned (.int .i64 (Pv.turn a b))∧Ext w w':=by
 unfold Bd at ha hb
 have g1:=mul_le' ha.1 hb.2
 have g2:=mul_le' ha.2 hb.1
 have h1:InR (a.x*b.y):=⟨by omega,by omega⟩
 have h2:InR (a.y*b.x):=⟨by omega,by omega⟩
 have h3:InR (a.x*b.y-a.y*b.x):=⟨by omega,by omega⟩
 refine enterQ (c:=cx w 16) Try.func145 rfl rfl rfl rfl ?_
 repeat' (first|((with_reducible apply oq_id);first|((with_reducible apply oq_mul);exact rfl;exact rfl;(first|exact h1|exact h2))|((with_reducible apply oq_sub);exact rfl;exact rfl;exact h3)|(apply oq_fn;exact rfl;first|exact trivial|(and_intros<;>omega)|omega|skip)|((with_reducible apply oq_load);exact rfl;exact rfl))|((with_reducible apply tl_id);first|(with_reducible apply tl_nil)|((with_reducible apply u_q);(iterate 4 exact rfl))|((with_reducible apply u_s);(iterate 3 exact rfl)))|((with_reducible apply os_id);first|((with_reducible apply os_x);exact rfl))|((with_reducible apply ox_id);first|((with_reducible apply ox_boxAgg);exact rfl;intro _))|((with_reducible apply rd_id);first|(apply Rd.own;(repeat first|exact P0|apply P1);exact rfl;done))|((with_reducible apply t_id);first|(with_reducible apply t_seq)|(apply t_region;kernel_rfl)|(with_reducible apply t_ret))|with_reducible apply q_thenN|(with_reducible apply end_ret)|exact rvs_nil|(with_reducible apply rvs_cons)|((with_reducible apply rv_tmp);exact rfl))
 all_goals rfl
end Go.Proofs.Ytcjkndjjbjoehaa
namespace Go.Proofs.Ytcjkndjjbjoehaa
open Pv
theorem path_inc:∀ {E:List Pv} {a:Pv},(∀ e∈E,pos e)→(path a E).Pairwise fun x y=>ltP x y=true
 | [],a,_=>List.pairwise_singleton _ _
 | e::E,a,h=>by
   refine List.pairwise_cons.2 ⟨fun v hv=>?_,path_inc fun x hx=>h x (List.mem_cons_of_mem _ hx)⟩
   obtain ⟨k,_,rfl⟩:=mem_path.1 hv
   have:=sum_pos (E:=e::E.take k) (fun x hx=>by
     rcases List.mem_cons.1 hx with rfl|hx
     · exact h _ (List.mem_cons_self ..)
     · exact h x (List.mem_cons_of_mem _ (List.mem_of_mem_take hx))) (by simp)
   refine ltP_pos.2 ?_
   have e2:sub (add (add a e) (sumP (E.take k))) a=sumP (e::E.take k):=by
     show _=add e (sumP (E.take k))
     unfold sub add;simp only [Pv.mk.injEq];omega
   rw [e2];exact this
theorem inc_nodup {l:List Pv} (h:l.Pairwise fun x y=>ltP x y=true):l.Nodup:=h.imp fun {a b} k e=>by subst e;exact ltP_irr _ k
theorem mem_drop {v:Pv} {E:List Pv} {a:Pv} (h:v∈(path a E).dropLast):∃ E1 e E2,E=E1++e::E2∧v=endP a E1:=by
 obtain ⟨i,hi⟩:=List.getElem?_of_mem h
 have hlt:=(List.getElem?_eq_some_iff.1 hi).1
 rw [List.length_dropLast,path_len] at hlt
 rw [List.getElem?_dropLast,path_len,if_pos (by omega),path_at _ _ _ (by omega)] at hi
 have hi2:i<E.length:=by omega
 refine ⟨E.take i,E[i],E.drop (i+1),?_,?_⟩
 · rw [← List.drop_eq_getElem_cons hi2,List.take_append_drop]
 · rw [endP_sum];exact (Option.some.inj hi).symm
theorem mem_front (a:Pv) (E1 E2:List Pv):endP a E1∈path a (E1++E2):=
 mem_path.2 ⟨E1.length,by simp,by rw [endP_sum,List.take_left]⟩
theorem turn_negr (u v:Pv):turn u (neg v)=-turn u v:=by
 unfold turn neg;simp only [Int.mul_neg];omega
theorem turn_negl (u v:Pv):turn (neg u) v=-turn u v:=by
 unfold turn neg;simp only [Int.neg_mul];omega
theorem sub_add (x e:Pv):sub (add x e) x=e:=by unfold sub add;cases e;simp only [Pv.mk.injEq];omega
theorem Rg.nodup {r:List Pv} {a:Pv} {E F:List Pv} (h:Rg r a E F):r.Nodup:=by
 by_cases hE:E=[]
 · rw [h.one hE];exact List.pairwise_singleton _ _
 rw [h.eq,if_neg hE,List.nodup_append]
 refine ⟨(inc_nodup (path_inc h.lo.1)).sublist (List.dropLast_sublist _),?_,?_⟩
 · refine List.Nodup.sublist (List.dropLast_sublist _) ?_
   have k:=path_inc (a:=neg (endP a E)) h.up.1
   rw [← path_neg,List.pairwise_map] at k
   exact k.imp fun {x y} q e=>by subst e;exact ltP_irr _ q
 · intro v hv u hu e0
   subst e0
   obtain ⟨E1,e,E2,hE1,hv1⟩:=mem_drop hv
   obtain ⟨F1,f,F2,hF1,hv2⟩:=mem_drop hu
   have pf:pos (neg f):=h.up.1 _ (List.mem_map.2 ⟨f,by rw [hF1];simp,rfl⟩)
   have pe:pos e:=h.lo.1 e (by rw [hE1];simp)
   have n1:endP a (E1++[e])∈r:=h.sub0 _ (by
     have e1:E=(E1++[e])++E2:=by rw [hE1];simp
     rw [e1];exact mem_front ..)
   have t1:=h.edge1 (p:=endP a (E1++[e])) (fun d=>⟨_,n1,Int.le_refl _⟩) hF1
   rw [← hv2,hv1,endP_snoc,sub_add] at t1
   rcases List.eq_nil_or_concat E1 with rfl|⟨E0,e0,rfl⟩
   · have hc:=h.cl
     rw [hF1,endP_sum (F1++f::F2) (endP a E),sumP_app,← add_assoc,← endP_sum F1 (endP a E),← hv2,hv1] at hc
     have z:=sum_pos (E:=(f::F2).map neg) (fun x hx=>h.up.1 x (by rw [hF1,List.map_append];exact List.mem_append_right _ hx)) (by simp)
     rw [sumP_neg] at z
     have k:add a (sumP (f::F2))=add a ⟨0,0⟩:=by rw [add_zero];exact hc
     rw [add_left k] at z
     exact pos_ne z rfl
   · rw [List.concat_eq_append] at *
     have n0:endP a E0∈r:=h.sub0 _ (by
       have e1:E=E0++([e0]++e::E2):=by rw [hE1];simp
       rw [e1];exact mem_front ..)
     have t0:=h.edge1 (p:=endP a E0) (fun d=>⟨_,n0,Int.le_refl _⟩) hF1
     have es:sub (endP a E0) (add (endP a E0) e0)=neg e0:=by unfold sub add neg;simp only [Pv.mk.injEq];omega
     rw [← hv2,hv1,endP_snoc,es,turn_negr] at t0
     have p0:pos e0:=h.lo.1 e0 (by rw [hE1];simp)
     have s1:=turn_swap f e
     have g1:=turn_negr e f
     have g2:=turn_negl f e0
     have tt:=turn_trans0 (u:=e) (v:=neg f) (w:=e0) pe pf p0 (by omega) (by omega)
     have cv:=h.lo.2
     rw [hE1,List.append_assoc] at cv
     have c2:=(List.pairwise_cons.1 (List.pairwise_append.1 cv).2.1).1 e (List.mem_cons_self ..)
     have:=turn_swap e0 e
     omega
theorem nodup_sub {α:Type} [DecidableEq α]:∀ {l m:List α},l.Nodup→(∀ x∈l,x∈m)→l.length≤m.length
 | [],_,_,_=>Nat.zero_le _
 | a::l,m,h,hs=>by
   obtain ⟨h1,h2⟩:=List.pairwise_cons.1 h
   have ha:=hs a (List.mem_cons_self ..)
   have ih:=nodup_sub (m:=m.erase a) h2 fun x hx=>(List.mem_erase_of_ne (fun e=>h1 x hx e.symm)).2 (hs x (List.mem_cons_of_mem _ hx))
   rw [List.length_erase_of_mem ha] at ih
   have:=List.length_pos_of_mem ha
   rw [List.length_cons]
   omega
theorem hulI_len {D:List Pv} (hne:D≠[]) (hD:D.Pairwise fun a b=>ltP a b=true):(hulI D).length≤D.length:=by
 obtain ⟨a,E,F,rg,_,_,h1,_⟩:=hul_rg hne hD
 exact nodup_sub rg.nodup h1
theorem mrg_map {α β:Type} {lt:α→α→Bool} {lt':β→β→Bool} (f:α→β) (h:∀ a b,lt' (f a) (f b)=lt a b):∀ l r:List α,mrg lt' (l.map f) (r.map f)=(mrg lt l r).map f
 | [],r=>by rw [mrg_nil,List.map_nil,mrg_nil]
 | a::l,[]=>by rw [mrg_right,List.map_nil,mrg_right]
 | a::l,b::r=>by
   have ih1:=mrg_map f h (a::l) r
   have ih2:=mrg_map f h l (b::r)
   rw [List.map_cons] at ih1
   rw [List.map_cons] at ih2
   rw [List.map_cons,List.map_cons]
   cases k:lt b a with
   | true=>rw [mrg_lt k,mrg_lt (by rw [h];exact k),ih1,List.map_cons]
   | false=>rw [mrg_ge k,mrg_ge (by rw [h];exact k),ih2,List.map_cons]
termination_by l r=>l.length+r.length
theorem srt_map {α β:Type} {lt:α→α→Bool} {lt':β→β→Bool} (f:α→β) (h:∀ a b,lt' (f a) (f b)=lt a b) (l:List α):srt lt' (l.map f)=(srt lt l).map f:=by
 refine snoc_ind (p:=fun l=>srt lt' (l.map f)=(srt lt l).map f) rfl (fun l x ih=>?_) l
 rw [List.map_append,List.map_singleton,srt_snoc,srt_snoc,ih,← mrg_map f h,List.map_singleton]
/-! Loads -/
structure Ld where
 al:Int
 ah:Int
 wl:Int
 wh:Int
deriving DecidableEq
structure Ld.Ok (x:Ld):Prop where
 a0 : -20000≤x.al
 a1:x.al≤x.ah
 a2:x.ah≤20000
 w0 : -1073741824≤x.wl
 w1:x.wl≤x.wh
 w2:x.wh≤1073741824
def pt (w a:Int):Pv:=⟨w,w*a⟩
def pts (x:Ld):List Pv:=[pt x.wl x.al,pt x.wl x.ah,pt x.wh x.al,pt x.wh x.ah]
def hL (d:Pv) (x:Ld):Int:=max (max (dot d (pt x.wl x.al)) (dot d (pt x.wl x.ah))) (max (dot d (pt x.wh x.al)) (dot d (pt x.wh x.ah)))
def hS (d:Pv) (l:List Ld):Int:=(l.map (hL d)).sum
theorem hS_snoc (d:Pv) (l:List Ld) (x:Ld):hS d (l++[x])=hS d l+hL d x:=by
 unfold hS;rw [List.map_append,List.sum_append];simp
theorem hL_up {d v:Pv} {x:Ld} (h:v∈pts x):dot d v≤hL d x:=by
 unfold pts at h
 simp only [List.mem_cons,List.not_mem_nil,or_false] at h
 unfold hL
 rcases h with rfl|rfl|rfl|rfl<;>omega
theorem hL_at (d:Pv) (x:Ld):∃ v∈pts x,dot d v=hL d x:=by
 have h:hL d x=dot d (pt x.wl x.al)∨hL d x=dot d (pt x.wl x.ah)∨hL d x=dot d (pt x.wh x.al)∨hL d x=dot d (pt x.wh x.ah):=by unfold hL;omega
 rcases h with h|h|h|h
 · exact ⟨_,by simp [pts],h.symm⟩
 · exact ⟨_,by simp [pts],h.symm⟩
 · exact ⟨_,by simp [pts],h.symm⟩
 · exact ⟨_,by simp [pts],h.symm⟩
theorem dot_pt (d:Pv) (w a:Int):dot d (pt w a)=w*(d.x+d.y*a):=by
 unfold dot pt
 simp only [Int.mul_add]
 rw [Int.mul_comm d.x,Int.mul_left_comm]
theorem dot_pt2 (d:Pv) (w a:Int):dot d (pt w a)=d.x*w+a*(d.y*w):=by
 unfold dot pt
 simp only
 rw [Int.mul_comm w a,Int.mul_left_comm]
theorem lin_max {lo hi t k:Int} (h1:lo≤t) (h2:t≤hi):t*k≤max (lo*k) (hi*k):=by
 rcases Int.le_total 0 k with h|h
 · have:=Int.mul_le_mul_of_nonneg_right h2 h
   omega
 · have:=Int.mul_le_mul_of_nonpos_right h1 h
   omega
theorem hL_in {d:Pv} {x:Ld} {w a:Int} (h1:x.wl≤w) (h2:w≤x.wh) (h3:x.al≤a) (h4:a≤x.ah):dot d (pt w a)≤hL d x:=by
 have k0:=lin_max (k:=d.x+d.y*a) h1 h2
 rw [← dot_pt,← dot_pt,← dot_pt] at k0
 have k1:=lin_max (k:=d.y*x.wl) h3 h4
 have k2:=lin_max (k:=d.y*x.wh) h3 h4
 have e1:=dot_pt2 d x.wl a
 have e2:=dot_pt2 d x.wh a
 have e3:=dot_pt2 d x.wl x.al
 have e4:=dot_pt2 d x.wl x.ah
 have e5:=dot_pt2 d x.wh x.al
 have e6:=dot_pt2 d x.wh x.ah
 unfold hL
 omega
def msum (l:List Ld):List Pv:=l.foldl (fun M x=>M.flatMap fun v=>(pts x).map (add v)) [⟨0,0⟩]
theorem msum_snoc {l:List Ld} {x:Ld} {u v:Pv} (hu:u∈msum l) (hv:v∈pts x):add u v∈msum (l++[x]):=by
 unfold msum
 rw [List.foldl_append]
 exact List.mem_flatMap.2 ⟨u,hu,List.mem_map.2 ⟨v,hv,rfl⟩⟩
structure One (x:Ld) (s:List Pv):Prop where
 rg:∃ a E F,Rg s a E F
 up:∀ d:Pv,∀ v∈s,dot d v≤hL d x
 at_:∀ d:Pv,∃ v∈s,dot d v=hL d x
 ms:∀ v∈s,v∈pts x
 bd:∀ v∈s,Bd 268435456 v
 len:s.length≤4
theorem one_of {x:Ld} {D:List Pv} (hD:D.Pairwise fun a b=>ltP a b=true) (hm:∀ q,q∈D↔q∈pts x) (hb:∀ q∈pts x,Bd 268435456 q):One x (hulI D):=by
 have hne:D≠[]:=fun e=>by
   have:=(hm (pt x.wl x.al)).2 (by simp [pts])
   rw [e] at this;cases this
 obtain ⟨a,E,F,rg,_,_,h1,h2,_⟩:=hul_rg hne hD
 refine ⟨⟨a,E,F,rg⟩,fun d v hv=>hL_up ((hm v).1 (h1 v hv)),fun d=>?_,fun v hv=>(hm v).1 (h1 v hv),fun v hv=>hb v ((hm v).1 (h1 v hv)),?_⟩
 · obtain ⟨q,hq,e⟩:=hL_at d x
   obtain ⟨v,hv,k⟩:=h2 d q ((hm q).2 hq)
   exact ⟨v,hv,Int.le_antisymm (hL_up ((hm v).1 (h1 v hv))) (by omega)⟩
 · exact nodup_sub (m:=pts x) rg.nodup fun v hv=>(hm v).1 (h1 v hv)
structure Reg (l:List Ld) (r:List Pv):Prop where
 rg:∃ a E F,Rg r a E F
 up:∀ d:Pv,∀ v∈r,dot d v≤hS d l
 at_:∀ d:Pv,∃ v∈r,dot d v=hS d l
 ms:∀ v∈r,v∈msum l
 bd:∀ v∈r,Bd 268435456 v
 len:r.length≤1∨r.length≤4*l.length
theorem reg_nil:Reg [] [⟨0,0⟩]:=by
 refine ⟨⟨⟨0,0⟩,[],[],⟨fun e h=>(nomatch h),List.Pairwise.nil⟩,⟨fun e h=>(nomatch h),List.Pairwise.nil⟩,rfl,rfl,fun d _ v hv=>⟨v,hv,Int.le_refl _⟩,fun d _ v hv=>⟨v,hv,Int.le_refl _⟩⟩,?_,?_,?_,?_,.inl (Nat.le_refl _)⟩
 · intro d v hv
   rw [List.mem_singleton.1 hv]
   unfold dot hS;simp
 · intro d
   exact ⟨_,List.mem_singleton.2 rfl,by unfold dot hS;simp⟩
 · intro v hv;exact hv
 · intro v hv
   rw [List.mem_singleton.1 hv]
   unfold Bd;simp only;omega
theorem path_closed {c:Pv} {M:List Pv} (hz:sumP M=⟨0,0⟩) (hne:M≠[]) {v:Pv} (hv:v∈path c M):v∈(path c M).dropLast:=by
 rw [← path_last,endP_sum,hz,add_zero] at hv
 rcases List.mem_append.1 hv with hv|hv
 · exact hv
 · rw [List.mem_singleton.1 hv]
   cases M with
   | nil=>exact absurd rfl hne
   | cons e M=>
     obtain ⟨t,ht⟩:=path_hd (add c e) M
     show c∈(c::path (add c e) M).dropLast
     rw [ht,List.dropLast_cons_cons]
     exact List.mem_cons_self ..
structure Sum2 (l:List Ld) (x:Ld) (r':List Pv):Prop where
 rg:∃ a E F,Rg r' a E F
 up:∀ d:Pv,∀ v∈r',dot d v≤hS d (l++[x])
 at_:∀ d:Pv,∃ v∈r',dot d v=hS d (l++[x])
 ms:∀ v∈r',v∈msum (l++[x])
 len:r'.length≤1∨r'.length≤4*(l++[x]).length
theorem Sum2.reg {l:List Ld} {x:Ld} {r:List Pv} (h:Sum2 l x r) (hb:∀ v∈r,Bd 268435456 v):Reg (l++[x]) r:=⟨h.rg,h.up,h.at_,h.ms,hb,h.len⟩
theorem Rg.len0 {r:List Pv} {a:Pv} {E F:List Pv} (h:Rg r a E F):(E=[]∧F=[]∧r.length=1)∨(E≠[]∧r.length=(E++F).length∧2≤r.length):=by
 by_cases hE:E=[]
 · exact .inl ⟨hE,h.nil_iff.1 hE,by rw [h.one hE];rfl⟩
 · exact .inr ⟨hE,h.len hE,h.two hE⟩
theorem reg_step {l:List Ld} {x:Ld} {r s:List Pv} {a b:Pv} {E F G H:List Pv} (hr:Reg l r) (hrg:Rg r a E F) (hs:One x s) (hsg:Rg s b G H) {L:List Sv} (hL:L.map Subtype.val=(E++F)++(G++H)) {D:List Pv} (hD:D.Pairwise fun a b=>ltP a b=true)
   (hm:∀ q,q∈D↔q∈path (add a b) ((srt ltS2 L).map Subtype.val)):Sum2 l x (hulI D):=by
 obtain ⟨p1,p2⟩:=sum_ok hrg hsg hL
 obtain ⟨M,hM⟩:∃ M,(srt ltS2 L).map Subtype.val=M:=⟨_,rfl⟩
 have hML:M.length=(E++F).length+(G++H).length:=by
   rw [← hM,List.length_map,srt_len,← List.length_append,← hL,List.length_map]
 have hMz:sumP M=⟨0,0⟩:=by
   rw [← hM,sumP_perm ((srt_perm L).map _),hL,sumP_app,hrg.allz,hsg.allz];rfl
 rw [hM] at p1 p2 hm
 have hne:D≠[]:=fun e=>by
   have:=(hm (add a b)).2 (mem_path_hd _ _)
   rw [e] at this;cases this
 obtain ⟨a',E',F',rg,_,_,h1,h2,_⟩:=hul_rg hne hD
 refine ⟨⟨a',E',F',rg⟩,fun d v hv=>?_,fun d=>?_,fun v hv=>?_,?_⟩
 · obtain ⟨u,hu,y,hy,rfl⟩:=p1 v ((hm v).1 (h1 v hv))
   rw [dot_add,hS_snoc]
   have:=hr.up d u hu
   have:=hs.up d y hy
   omega
 · obtain ⟨u,hu,e1⟩:=hr.at_ d
   obtain ⟨y,hy,e2⟩:=hs.at_ d
   obtain ⟨q,hq,k1⟩:=p2 d u hu y hy
   obtain ⟨v,hv,k2⟩:=h2 d q ((hm q).2 hq)
   obtain ⟨u2,hu2,y2,hy2,e3⟩:=p1 v ((hm v).1 (h1 v hv))
   refine ⟨v,hv,?_⟩
   have g1:=hr.up d u2 hu2
   have g2:=hs.up d y2 hy2
   have g3:dot d v=dot d u2+dot d y2:=by rw [e3,dot_add]
   rw [hS_snoc]
   omega
 · obtain ⟨u,hu,y,hy,rfl⟩:=p1 v ((hm v).1 (h1 v hv))
   exact msum_snoc (hr.ms u hu) (hs.ms y hy)
 · have k0:=hulI_len hne hD
   have k1:=hr.len
   have k2:=hs.len
   have q1:=hrg.len0
   have q2:=hsg.len0
   rw [List.length_append,List.length_singleton]
   have l1:(E++F).length≤4*l.length:=by
     rcases q1 with ⟨rfl,rfl,_⟩|⟨_,e,_⟩
     · simp
     · omega
   have l2:(G++H).length≤4:=by
     rcases q2 with ⟨rfl,rfl,_⟩|⟨_,e,_⟩
     · simp
     · omega
   by_cases hM0:M=[]
   · left
     have:=nodup_sub (m:=path (add a b) M) (inc_nodup hD) (fun v hv=>(hm v).1 hv)
     rw [path_len,hM0,List.length_nil] at this
     omega
   · right
     have:=nodup_sub (m:=(path (add a b) M).dropLast) (inc_nodup hD) (fun v hv=>path_closed hMz hM0 ((hm v).1 hv))
     rw [List.length_dropLast,path_len] at this
     omega
theorem hL_0 (d:Pv) (l:List Ld) (f:Ld→Int) (h:∀ x∈l,hL d x=f x):hS d l=(l.map f).sum:=by
 unfold hS
 rw [List.map_congr_left h]
theorem hL_x {x:Ld} (h:x.Ok):hL ⟨1,0⟩ x=x.wh:=by
 have:=h.w1
 unfold hL
 simp only [dot_x,pt]
 omega
theorem hL_xn {x:Ld} (h:x.Ok):hL ⟨-1,0⟩ x=-x.wl:=by
 have:=h.w1
 unfold hL
 simp only [dot_xn,pt]
 omega
theorem reg_bd {l:List Ld} {r:List Pv} (h:Reg l r) {p:Pv} (hp:∀ d:Pv,dot d p≤hS d l):(∀ d:Pv,∃ v∈r,dot d p≤dot d v)∧Bd 268435456 p:=by
 have k:∀ d:Pv,∃ v∈r,dot d p≤dot d v:=fun d=>by
   obtain ⟨v,hv,e⟩:=h.at_ d
   exact ⟨v,hv,by have:=hp d;omega⟩
 refine ⟨k,?_⟩
 obtain ⟨v1,g1,k1⟩:=k ⟨1,0⟩
 obtain ⟨v2,g2,k2⟩:=k ⟨-1,0⟩
 obtain ⟨v3,g3,k3⟩:=k ⟨0,1⟩
 obtain ⟨v4,g4,k4⟩:=k ⟨0,-1⟩
 have b1:=h.bd v1 g1
 have b2:=h.bd v2 g2
 have b3:=h.bd v3 g3
 have b4:=h.bd v4 g4
 rw [dot_x,dot_x] at k1
 rw [dot_xn,dot_xn] at k2
 rw [dot_y,dot_y] at k3
 rw [dot_yn,dot_yn] at k4
 unfold Bd at *
 omega
def lmK (d:Pv) (r:List Pv):Nat→Int×Int
 | 0=>(0,0)
 | k+1=>match r[k]? with
   | some p=>if k=0 then (dot d p,dot d p) else (min (lmK d r k).1 (dot d p),max (lmK d r k).2 (dot d p))
   | none=>lmK d r k
theorem lmK_succ {d p:Pv} {r:List Pv} {k:Nat} (h:r[k]?=some p):lmK d r (k+1)=if k=0 then (dot d p,dot d p) else (min (lmK d r k).1 (dot d p),max (lmK d r k).2 (dot d p)):=by
 conv=>lhs;unfold lmK
 rw [h]
theorem lmK_max (d:Pv) (r:List Pv):∀ k,0<k→k≤r.length→(∀ v∈r.take k,dot d v≤(lmK d r k).2)∧∃ v∈r.take k,dot d v=(lmK d r k).2
 | 0,h,_=>by omega
 | k+1,_,hk=>by
   obtain ⟨p,hp⟩:∃ p,r[k]?=some p:=⟨_,List.getElem?_eq_getElem (by omega)⟩
   have et:r.take (k+1)=r.take k++[p]:=by rw [List.take_add_one,hp];rfl
   rw [lmK_succ hp,et]
   by_cases h0:k=0
   · subst h0
     rw [if_pos rfl,List.take_zero]
     exact ⟨fun v hv=>by rw [List.mem_singleton.1 hv];exact Int.le_refl _,p,List.mem_singleton.2 rfl,rfl⟩
   · rw [if_neg h0]
     obtain ⟨i1,v,hv,i2⟩:=lmK_max d r k (by omega) (by omega)
     simp only
     refine ⟨fun u hu=>?_,?_⟩
     · rcases List.mem_append.1 hu with hu|hu
       · have:=i1 u hu;omega
       · rw [List.mem_singleton.1 hu];omega
     · rcases Int.le_total (lmK d r k).2 (dot d p) with q|q
       · exact ⟨p,List.mem_append_right _ (List.mem_singleton.2 rfl),by omega⟩
       · exact ⟨v,List.mem_append_left _ hv,by omega⟩
theorem reach_eq {l:List Ld} {r:List Pv} (h:Reg l r) (d:Pv):(lmK d r r.length).2=hS d l:=by
 obtain ⟨u,hu,e⟩:=h.at_ d
 obtain ⟨h1,v,hv,h2⟩:=lmK_max d r r.length (List.length_pos_of_mem hu) (Nat.le_refl _)
 rw [List.take_length] at h1 hv
 have k1:=h1 u hu
 have k2:=h.up d v hv
 omega
end Go.Proofs.Ytcjkndjjbjoehaa
namespace Go.Proofs.Ytcjkndjjbjoehaa
section
variable {α:Type} {lt:α→α→Bool}
theorem swap_perm {l:List α} {i j:Nat} {x y:α} (hx:l[i]?=some x) (hy:l[j]?=some y):((l.set i y).set j x).Perm l:=by
 by_cases hij:i=j
 · subst hij
   rw [hx] at hy
   obtain rfl:=Option.some.inj hy
   rw [List.set_set]
   obtain ⟨hi,he⟩:=List.getElem?_eq_some_iff.1 hx
   subst he
   rw [List.set_getElem_self]
 -- two places
 have key:∀ {l:List α} {i j:Nat} {x y:α},i<j→l[i]?=some x→l[j]?=some y→((l.set i y).set j x).Perm l:=by
   intro l i j x y hlt hx hy
   obtain ⟨hi,hxe⟩:=List.getElem?_eq_some_iff.1 hx
   obtain ⟨hj,hye⟩:=List.getElem?_eq_some_iff.1 hy
   have e:l=l.take i++x::((l.drop (i+1)).take (j-i-1)++y::l.drop (j+1)):=by
     have e1:l=l.take i++x::l.drop (i+1):=by rw [← hxe,← List.drop_eq_getElem_cons hi,List.take_append_drop]
     have e2:l.drop (i+1)=(l.drop (i+1)).take (j-i-1)++y::l.drop (j+1):=by
       conv=>lhs;rw [← List.take_append_drop (j-i-1) (l.drop (i+1)),List.drop_drop,show i+1+(j-i-1)=j by omega,List.drop_eq_getElem_cons hj,hye]
     conv=>lhs;rw [e1,e2]
   have hl1:(l.take i).length=i:=by rw [List.length_take];omega
   have hl2:((l.drop (i+1)).take (j-i-1)).length=j-i-1:=by rw [List.length_take,List.length_drop];omega
   obtain ⟨A,hA⟩:∃ A,l.take i=A:=⟨_,rfl⟩
   obtain ⟨B,hB⟩:∃ B,(l.drop (i+1)).take (j-i-1)=B:=⟨_,rfl⟩
   obtain ⟨C,hC⟩:∃ C,l.drop (j+1)=C:=⟨_,rfl⟩
   rw [hA] at hl1 e
   rw [hB] at hl2 e
   rw [hC] at e
   subst e
   have f1:((A++x::(B++y::C)).set i y)=A++y::(B++y::C):=by
     rw [← hl1,List.set_append_right _ _ (Nat.le_refl _),Nat.sub_self];rfl
   have f2:((A++y::(B++y::C)).set j x)=A++y::(B++x::C):=by
     rw [List.set_append_right _ _ (by omega),show j-A.length=(j-i-1)+1 by omega,List.set_cons_succ,List.set_append_right _ _ (by omega),hl2,Nat.sub_self];rfl
   rw [f1,f2]
   refine List.Perm.append_left A ?_
   have g1:(y::(B++x::C)).Perm (y::x::(B++C)):=List.perm_middle.cons y
   have g2:(x::(B++y::C)).Perm (x::y::(B++C)):=List.perm_middle.cons x
   exact g1.trans ((List.Perm.swap x y _).trans g2.symm)
 rcases Nat.lt_or_gt_of_ne hij with h|h
 · exact key h hx hy
 · rw [List.set_comm _ _ hij]
   exact key h hy hx
def Sg (a b:Nat) (Z Z':List α):Prop:=∃ P X X' Q,Z=P++(X++Q)∧Z'=P++(X'++Q)∧P.length=a∧a+X.length=b∧X'.Perm X
theorem Sg.refl {a b:Nat} {Z:List α} (h1:a≤b) (h2:b≤Z.length):Sg a b Z Z:=by
 have e:Z=Z.take a++((Z.drop a).take (b-a)++(Z.drop a).drop (b-a)):=by rw [List.take_append_drop,List.take_append_drop]
 refine ⟨Z.take a,(Z.drop a).take (b-a),_,(Z.drop a).drop (b-a),e,e,?_,?_,List.Perm.refl _⟩
 · rw [List.length_take];omega
 · rw [List.length_take,List.length_drop];omega
theorem Sg.len {a b:Nat} {Z Z':List α} (h:Sg a b Z Z'):Z'.length=Z.length:=by
 obtain ⟨P,X,X',Q,rfl,rfl,_,_,hp⟩:=h
 simp only [List.length_append,hp.length_eq]
theorem Sg.le {a b:Nat} {Z Z':List α} (h:Sg a b Z Z'):a≤b∧b≤Z.length:=by
 obtain ⟨P,X,X',Q,rfl,rfl,h1,h2,hp⟩:=h
 simp only [List.length_append]
 omega
theorem Sg.trans {a b:Nat} {Z Z' Z'':List α} (h:Sg a b Z Z') (k:Sg a b Z' Z''):Sg a b Z Z'':=by
 obtain ⟨P,X,X',Q,rfl,rfl,h1,h2,hp⟩:=h
 obtain ⟨P2,Y,Y',Q2,e,rfl,k1,k2,kp⟩:=k
 have hl:=hp.length_eq
 obtain ⟨rfl,e2⟩:=List.append_inj e (by omega)
 obtain ⟨rfl,rfl⟩:=List.append_inj e2 (by omega)
 exact ⟨P,X,Y',Q,rfl,rfl,h1,h2,kp.trans hp⟩
theorem Sg.swap {a b i j:Nat} {Z Z':List α} {x y:α} (h:Sg a b Z Z') (hx:Z'[i]?=some x) (hy:Z'[j]?=some y) (hi:a≤i∧i<b) (hj:a≤j∧j<b):Sg a b Z ((Z'.set i y).set j x):=by
 obtain ⟨P,X,X',Q,rfl,rfl,h1,h2,hp⟩:=h
 have hl:=hp.length_eq
 have e1:∀ (k:Nat) (z:α) (W:List α),W.length=X.length→a≤k→k<b→(P++(W++Q)).set k z=P++(W.set (k-a) z++Q):=fun k z W hW hk hk2=>by
   rw [List.set_append_right _ _ (by omega),List.set_append_left _ _ (by omega),h1]
 have e2:∀ (k:Nat) (z:α),a≤k→k<b→(P++(X'++Q))[k]?=some z→X'[k-a]?=some z:=fun k z hk hk2 hz=>by
   rw [List.getElem?_append_right (by omega),List.getElem?_append_left (by omega),h1] at hz
   exact hz
 have hx':=e2 i x hi.1 hi.2 hx
 have hy':=e2 j y hj.1 hj.2 hy
 refine ⟨P,X,(X'.set (i-a) y).set (j-a) x,Q,rfl,?_,h1,h2,(swap_perm hx' hy').trans hp⟩
 rw [e1 i y X' hl hi.1 hi.2,e1 j x _ (by simp [hl]) hj.1 hj.2]
theorem Sg.mem {a b:Nat} {Z Z':List α} (h:Sg a b Z Z') {p:α→Prop} (hp:∀ i x,a≤i→i<b→Z[i]?=some x→p x):∀ i x,a≤i→i<b→Z'[i]?=some x→p x:=by
 obtain ⟨P,X,X',Q,rfl,rfl,h1,h2,hpm⟩:=h
 have hl:=hpm.length_eq
 intro i x hi hib hx
 rw [List.getElem?_append_right (by omega),List.getElem?_append_left (by omega)] at hx
 obtain ⟨k,hk⟩:=List.getElem?_of_mem (hpm.mem_iff.1 (List.mem_of_getElem? hx))
 have hkl:=(List.getElem?_eq_some_iff.1 hk).1
 refine hp (a+k) x (by omega) (by omega) ?_
 rw [List.getElem?_append_right (by omega),List.getElem?_append_left (by omega),show a+k-P.length=k by omega]
 exact hk
theorem Sg.out {a b i:Nat} {Z Z':List α} (h:Sg a b Z Z') (hi:i<a∨b≤i):Z'[i]?=Z[i]?:=by
 obtain ⟨P,X,X',Q,rfl,rfl,h1,h2,hp⟩:=h
 have hl:=hp.length_eq
 rcases hi with hi|hi
 · rw [List.getElem?_append_left (by omega),List.getElem?_append_left (by omega)]
 · rw [List.getElem?_append_right (by omega),List.getElem?_append_right (by omega),List.getElem?_append_right (by omega),List.getElem?_append_right (by omega),hl]
theorem Sg.wide {a b a' b':Nat} {Z Z':List α} (h:Sg a b Z Z') (h1:a'≤a) (h2:b≤b') (h3:b'≤Z.length):Sg a' b' Z Z':=by
 obtain ⟨P,X,X',Q,rfl,rfl,k1,k2,hp⟩:=h
 have hl:=hp.length_eq
 simp only [List.length_append] at h3
 refine ⟨P.take a',P.drop a'++(X++Q.take (b'-b)),P.drop a'++(X'++Q.take (b'-b)),Q.drop (b'-b),?_,?_,?_,?_,List.Perm.append_left _ (List.Perm.append_right _ hp)⟩
 · rw [List.append_assoc,List.append_assoc,List.take_append_drop (b'-b) Q,← List.append_assoc (P.take a'),List.take_append_drop]
 · rw [List.append_assoc,List.append_assoc,List.take_append_drop (b'-b) Q,← List.append_assoc (P.take a'),List.take_append_drop]
 · rw [List.length_take];omega
 · simp only [List.length_append,List.length_drop,List.length_take];omega
def So (lt:α→α→Bool) (a b:Nat) (Z:List α):Prop:=∀ i j x y,a≤i→i<j→j<b→Z[i]?=some x→Z[j]?=some y→lt y x=false
structure PI (lt:α→α→Bool) (p:α) (a i j b:Nat) (Y:List α):Prop where
 hd:Y[a]?=some p
 lo:∀ k x,a<k→k<i→Y[k]?=some x→lt x p=true
 hi:∀ k x,j<k→k<b→Y[k]?=some x→lt x p=false
 i1:a+1≤i
 ij:i≤j+1
 jb:j<b
theorem PI.inc {p x:α} {a i j b:Nat} {Y:List α} (h:PI lt p a i j b Y) (hij:i≤j) (hx:Y[i]?=some x) (hl:lt x p=true):PI lt p a (i+1) j b Y:=
 ⟨h.hd,fun k z h1 h2 h3=>by
   rcases Nat.lt_or_ge k i with h4|h4
   · exact h.lo k z h1 h4 h3
   · obtain rfl:k=i:=by omega
     rw [hx] at h3
     obtain rfl:=Option.some.inj h3
     exact hl,h.hi,by have:=h.i1;omega,by omega,h.jb⟩
theorem PI.dec {p y:α} {a i j b:Nat} {Y:List α} (h:PI lt p a i j b Y) (hij:i≤j) (hy:Y[j]?=some y) (hl:lt y p=false):PI lt p a i (j-1) b Y:=
 ⟨h.hd,h.lo,fun k z h1 h2 h3=>by
   rcases Nat.lt_or_ge j k with h4|h4
   · exact h.hi k z h4 h2 h3
   · obtain rfl:k=j:=by omega
     rw [hy] at h3
     obtain rfl:=Option.some.inj h3
     exact hl,h.i1,by have:=h.i1;omega,by have:=h.jb;omega⟩
theorem set2_at {Y:List α} {i j k:Nat} {x y z:α} (h:((Y.set i y).set j x)[k]?=some z):(k=j∧z=x)∨(k≠j∧k=i∧z=y)∨(k≠j∧k≠i∧Y[k]?=some z):=by
 by_cases h1:k=j
 · subst h1
   rw [List.getElem?_set] at h
   rw [if_pos rfl] at h
   split at h
   · exact .inl ⟨rfl,(Option.some.inj h).symm⟩
   · cases h
 · rw [List.getElem?_set_ne (Ne.symm h1)] at h
   by_cases h2:k=i
   · subst h2
     rw [List.getElem?_set,if_pos rfl] at h
     split at h
     · exact .inr (.inl ⟨h1,rfl,(Option.some.inj h).symm⟩)
     · cases h
   · rw [List.getElem?_set_ne (Ne.symm h2)] at h
     exact .inr (.inr ⟨h1,h2,h⟩)
theorem PI.swap {p x y:α} {a i j b:Nat} {Y:List α} (h:PI lt p a i j b Y) (hij:i≤j) (hx:Y[i]?=some x) (hxl:lt x p=false) (hy:Y[j]?=some y) (hyl:lt y p=true):i<j∧PI lt p a (i+1) (j-1) b ((Y.set i y).set j x):=by
 have hne:i<j:=by
   rcases Nat.lt_or_ge i j with k|k
   · exact k
   · obtain rfl:i=j:=by omega
     rw [hx] at hy
     obtain rfl:=Option.some.inj hy
     rw [hxl] at hyl;cases hyl
 have i1:=h.i1
 have jb:=h.jb
 refine ⟨hne,?_,fun k z h1 h2 h3=>?_,fun k z h1 h2 h3=>?_,by omega,by omega,by omega⟩
 · rw [List.getElem?_set_ne (by omega),List.getElem?_set_ne (by omega)];exact h.hd
 · rcases set2_at h3 with ⟨e,_⟩|⟨_,_,rfl⟩|⟨_,e2,e3⟩
   · omega
   · exact hyl
   · exact h.lo k z h1 (by omega) e3
 · rcases set2_at h3 with ⟨e,rfl⟩|⟨_,e,_⟩|⟨e1,_,e3⟩
   · exact hxl
   · omega
   · exact h.hi k z (by omega) h2 e3
structure PF (lt:α→α→Bool) (p:α) (a m b:Nat) (W:List α):Prop where
 at_:W[m]?=some p
 lo:∀ k x,a≤k→k<m→W[k]?=some x→lt x p=true
 hi:∀ k x,m<k→k<b→W[k]?=some x→lt x p=false
 am:a≤m
 mb:m<b
theorem PI.done {p z:α} {a i j b:Nat} {Y:List α} (h:PI lt p a i j b Y) (hij:j<i) (hz:Y[j]?=some z):PF lt p a j b ((Y.set j p).set a z):=by
 have i1:=h.i1
 have ij:=h.ij
 have jb:=h.jb
 have haj:a≤j:=by omega
 refine ⟨?_,fun k x h1 h2 h3=>?_,fun k x h1 h2 h3=>?_,haj,jb⟩
 · by_cases e:a=j
   · subst e
     rw [h.hd] at hz
     obtain rfl:=Option.some.inj hz
     rw [List.set_set,List.getElem?_set_self (List.getElem?_eq_some_iff.1 h.hd).1]
   · rw [List.getElem?_set_ne e,List.getElem?_set_self (List.getElem?_eq_some_iff.1 hz).1]
 · rcases set2_at h3 with ⟨e,rfl⟩|⟨_,e,_⟩|⟨e1,_,e3⟩
   · exact h.lo j x (by omega) (by omega) hz
   · omega
   · exact h.lo k x (by omega) (by omega) e3
 · rcases set2_at h3 with ⟨e,_⟩|⟨_,e,_⟩|⟨_,_,e3⟩
   · omega
   · omega
   · exact h.hi k x h1 h2 e3
structure QI (lt:α→α→Bool) (p:α) (a i j b:Nat) (Y:List α):Prop where
 hd:Y[a]?=some p
 lo:∀ k x,a<k→k<i→Y[k]?=some x→lt p x=false
 hi:∀ k x,j<k→k<b→Y[k]?=some x→lt p x=true
 i1:a+1≤i
 ij:i≤j+1
 jb:j<b
theorem QI.inc {p x:α} {a i j b:Nat} {Y:List α} (h:QI lt p a i j b Y) (hij:i≤j) (hx:Y[i]?=some x) (hl:lt p x=false):QI lt p a (i+1) j b Y:=
 ⟨h.hd,fun k z h1 h2 h3=>by
   rcases Nat.lt_or_ge k i with h4|h4
   · exact h.lo k z h1 h4 h3
   · obtain rfl:k=i:=by omega
     rw [hx] at h3
     obtain rfl:=Option.some.inj h3
     exact hl,h.hi,by have:=h.i1;omega,by omega,h.jb⟩
theorem QI.dec {p y:α} {a i j b:Nat} {Y:List α} (h:QI lt p a i j b Y) (hij:i≤j) (hy:Y[j]?=some y) (hl:lt p y=true):QI lt p a i (j-1) b Y:=
 ⟨h.hd,h.lo,fun k z h1 h2 h3=>by
   rcases Nat.lt_or_ge j k with h4|h4
   · exact h.hi k z h4 h2 h3
   · obtain rfl:k=j:=by omega
     rw [hy] at h3
     obtain rfl:=Option.some.inj h3
     exact hl,h.i1,by have:=h.i1;omega,by have:=h.jb;omega⟩
theorem QI.swap {p x y:α} {a i j b:Nat} {Y:List α} (h:QI lt p a i j b Y) (hij:i≤j) (hx:Y[i]?=some x) (hxl:lt p x=true) (hy:Y[j]?=some y) (hyl:lt p y=false):i<j∧QI lt p a (i+1) (j-1) b ((Y.set i y).set j x):=by
 have hne:i<j:=by
   rcases Nat.lt_or_ge i j with k|k
   · exact k
   · obtain rfl:i=j:=by omega
     rw [hx] at hy
     obtain rfl:=Option.some.inj hy
     rw [hxl] at hyl;cases hyl
 have i1:=h.i1
 have jb:=h.jb
 refine ⟨hne,?_,fun k z h1 h2 h3=>?_,fun k z h1 h2 h3=>?_,by omega,by omega,by omega⟩
 · rw [List.getElem?_set_ne (by omega),List.getElem?_set_ne (by omega)];exact h.hd
 · rcases set2_at h3 with ⟨e,_⟩|⟨_,_,rfl⟩|⟨_,e2,e3⟩
   · omega
   · exact hyl
   · exact h.lo k z h1 (by omega) e3
 · rcases set2_at h3 with ⟨e,rfl⟩|⟨_,e,_⟩|⟨e1,_,e3⟩
   · exact hxl
   · omega
   · exact h.hi k z (by omega) h2 e3
end
end Go.Proofs.Ytcjkndjjbjoehaa
namespace Go.Proofs.Ytcjkndjjbjoehaa
open Go.RowKit
attribute [local irreducible] OQ OS OX Rd T TL GX GL AL AI RV wpG SAny Calls
theorem swp_get {α:Type} {Z:List α} {i j:Nat} {x y:α} (hx:Z[i]?=some x) (hy:Z[j]?=some y):(Z.set i y)[j]?=some y:=by
 by_cases h:i=j
 · subst h
   rw [List.getElem?_set_self (List.getElem?_eq_some_iff.1 hx).1]
 · rw [List.getElem?_set_ne h];exact hy
theorem reverse_M {α:Type} {fx fy:α→Int} {lt:α→α→Bool} {kf:Nat} (hw:Wo lt) (HK:CmpOk fx fy lt kf) (g cp n a b:Nat) (Z:List α) (w:World) (hH:Has w ⟨[g],[]⟩ [(g,coB fx fy (Z),some (111,2,cp))] w) (hn:Z.length=n) (hn1:n≤1000000) (hab:a≤b) (hb:b≤n) (h1:1≤b) :
   Calls Try.prog 200 #[.slice (some ⟨g,0,none⟩) n cp,.int .i64 ((a:Nat):Int),.int .i64 ((b:Nat):Int),.func (.func kf) #[] #[]] w fun e w'=>∃ v H1,e=.returned v∧(v=.tuple #[]∧∃ Z',Sg a b Z Z'∧H1=[(g,coB fx fy (Z'),some (111,2,cp))])∧Has w ⟨[g],[]⟩ H1 w':=by
 refine enterM (c:=cxM [g] w 34) Try.func200 rfl rfl rfl hH ?_
 repeat' (first|((with_reducible apply oq_id);first|(focus ((with_reducible apply (oq_subE (k:=((b-1:Nat):Int))));exact rfl;exact rfl;omega))|(apply oq_fn;exact rfl;first|exact trivial|(and_intros<;>omega)|omega|skip))|((with_reducible apply tl_id);first|(with_reducible apply tl_nil)|((with_reducible apply u_q);(iterate 4 exact rfl)))|((with_reducible apply t_id);first|(with_reducible apply t_seq)|(apply t_region;kernel_rfl)|(with_reducible apply t_block))|with_reducible apply q_thenN)
 apply t_loopP (ι:=Nat×Nat×List α) [0,1,2,3] (fun z=>[(8,.int .i64 ((z.1:Nat):Int)),(9,.int .i64 ((z.2.1:Nat):Int))]) (fun z=>[(g,coB fx fy (z.2.2),some (111,2,cp))]) (fun z=>a≤z.1∧z.2.1<b∧Sg a b Z z.2.2) (fun z=>z.2.1-z.1) (a,b-1,Z)
 (repeat (first|exact KeepF.nil|(apply KeepF.cons;exact rfl)|apply KeepF.skip))
 (repeat first|exact FrSub.nil|(apply FrSub.cons;exact rfl))
 (try simp only [List.cons_append,List.nil_append])
 (repeat' (first|exact HpSub.refl _))
 · exact ⟨Nat.le_refl _,(by simp only;omega),Sg.refl hab (by omega)⟩
 rintro ⟨i,j,Y⟩ ⟨hi,hj,hs⟩
 simp only at hi hj hs
 try simp only [List.cons_append,List.nil_append]
 have hYl:=hs.len
 by_cases hlt:i<j
 · obtain ⟨x,hx⟩:∃ x,Y[i]?=some x:=⟨_,List.getElem?_eq_getElem (by omega)⟩
   obtain ⟨y,hy⟩:∃ y,Y[j]?=some y:=⟨_,List.getElem?_eq_getElem (by omega)⟩
   have hy2:=swp_get hx hy
   obtain ⟨q0,q1⟩:=co_at (fx:=fx) (fy:=fy) hx
   obtain ⟨r0,r1⟩:=co_at (fx:=fx) (fy:=fy) hy
   repeat' (first|((with_reducible apply oq_id);first|(focus ((with_reducible apply oq_indexAddrN);(iterate 4 exact rfl);omega))|(focus ((with_reducible apply (oq_addE (k:=((i+1:Nat):Int))));exact rfl;exact rfl;omega))|(focus ((with_reducible apply (oq_subE (k:=((j-1:Nat):Int))));exact rfl;exact rfl;omega))|((with_reducible apply oq_lssT);exact rfl;exact rfl;omega)|(apply oq_fn;exact rfl;first|exact trivial|(and_intros<;>omega)|omega|skip)|((with_reducible apply oq_loadAgg);exact rfl;exact rfl))|((with_reducible apply tl_id);first|(with_reducible apply tl_nil)|((with_reducible apply u_q);(iterate 4 exact rfl)))|((with_reducible apply gx_id);first|(with_reducible apply v_nil)|((with_reducible apply v_q);(iterate 3 exact rfl)))|((with_reducible apply os_id);first|((with_reducible apply (os_storeCo (fx:=fx) (fy:=fy) y hx rfl));(iterate 3 exact rfl);(repeat first|exact P0|apply P1))|((with_reducible apply (os_storeCo (fx:=fx) (fy:=fy) x hy2 rfl));(iterate 3 exact rfl);(repeat first|exact P0|apply P1)))|((with_reducible apply ai_id);first|((with_reducible apply ai_q);(iterate 5 exact rfl))|((with_reducible apply ai_n0);(iterate 3 exact rfl)))|((with_reducible apply al_keep);focus (repeat (first|exact HpSub.refl _|(apply HpSub.cons;(repeat first|exact P0|apply P1))|apply HpSub.skipX|exact HpSub.nil)))|((with_reducible apply rd_id);first|(apply Rd.own;(repeat first|exact P0|apply P1);with_reducible (first|exact q0|exact q1|exact r0|exact r1|exact s0|exact s1);done))|((with_reducible apply t_id);first|(apply t_mixZ (id:=3) [0,1,2,3,4,5,6,8,9,10] 6;kernel_rfl;kernel_rfl;exact rfl)|(with_reducible apply t_seq)|(apply t_region;kernel_rfl)|((with_reducible apply t_condT);exact rfl)|(with_reducible apply t_skip)|(with_reducible apply t_block))|with_reducible apply q_thenN|with_reducible apply q_blockN|exact Rdn.zero|apply Rdn.succ|((with_reducible apply al_id);first|(apply al_done;decide +kernel)|(apply al_one 7;decide +kernel)|(apply al_one 11;decide +kernel)|(apply al_one 12;decide +kernel)|(apply al_one 13;decide +kernel)|(apply al_one 14;decide +kernel)|(apply al_one 15;decide +kernel)|(apply al_two 7 11;decide +kernel)))
   all_goals (refine ⟨(i+1,j-1,(Y.set i y).set j x),⟨(by simp only;omega),(by simp only;omega),hs.swap hx hy (by omega) (by omega)⟩,(by simp only;omega),?_,?_⟩<;>(repeat' (first|exact FrSub.nil|(apply FrSub.cons;exact rfl)|exact HpSub.refl _)))
 · repeat' (first|((with_reducible apply oq_id);first|((with_reducible apply oq_lssF);exact rfl;exact rfl;omega)|(apply oq_fn;exact rfl;first|exact trivial|(and_intros<;>omega)|omega|skip))|((with_reducible apply tl_id);first|(with_reducible apply tl_nil)|((with_reducible apply u_q);(iterate 4 exact rfl)))|((with_reducible apply t_id);first|(with_reducible apply t_seq)|(apply t_region;kernel_rfl)|((with_reducible apply t_condF);exact rfl)|(with_reducible apply t_exit))|with_reducible apply q_thenN|with_reducible apply q_thenE|((with_reducible apply q_blockE);exact rfl)|(with_reducible apply end_normal)|exact rvs_nil)
   all_goals exact ⟨_,⟨rfl,Y,hs,rfl⟩,HpSub.w (by (repeat (first|exact HpSub.refl _|(apply HpSub.consE;(repeat first|exact P0|apply P1);exact rfl)|apply HpSub.skipX|exact HpSub.nil)))⟩
theorem So.snoc {α:Type} {lt:α→α→Bool} (hw:Wo lt) {a i:Nat} {Z:List α} {x y:α} (h:So lt a i Z) (hai:a+1≤i) (hx:Z[i]?=some x) (hy:Z[i-1]?=some y) (hl:lt x y=false):So lt a (i+1) Z:=by
 intro p q u v hp hpq hq hu hv
 rcases Nat.lt_or_ge q i with k|k
 · exact h p q u v hp hpq k hu hv
 · obtain rfl:q=i:=by omega
   rw [hx] at hv
   obtain rfl:=Option.some.inj hv
   rcases Nat.lt_or_ge p (q-1) with k2|k2
   · exact hw.tr _ _ _ (h p (q-1) u y hp k2 (by omega) hu hy) hl
   · obtain rfl:p=q-1:=by omega
     rw [hy] at hu
     obtain rfl:=Option.some.inj hu
     exact hl
theorem partial_M {α:Type} {fx fy:α→Int} {lt:α→α→Bool} {kf:Nat} (hw:Wo lt) (HK:CmpOk fx fy lt kf) (g cp n a b:Nat) (Z:List α) (w:World) (hH:Has w ⟨[g],[]⟩ [(g,coB fx fy (Z),some (111,2,cp))] w) (hn:Z.length=n) (hn1:n≤1000000) (hab:a+1≤b) (hb:b≤n) (h50:b<a+50) :
   Calls Try.prog 201 #[.slice (some ⟨g,0,none⟩) n cp,.int .i64 ((a:Nat):Int),.int .i64 ((b:Nat):Int),.func (.func kf) #[] #[]] w fun e w'=>∃ v H1,e=.returned v∧(∃ f:Bool,v=.bool f∧(f=true→So lt a b Z)∧H1=[(g,coB fx fy (Z),some (111,2,cp))])∧Has w ⟨[g],[]⟩ H1 w':=by
 refine enterM (c:=cxM [g] w 141) Try.func201 rfl rfl rfl hH ?_
 refine t_cut (ι:=Unit) (fun _=>[(0,.slice (some ⟨g,0,none⟩) n cp),(1,.int .i64 ((a:Nat):Int)),(2,.int .i64 ((b:Nat):Int)),(3,.func (.func kf) #[] #[])]) (fun _=>[(g,coB fx fy (Z),some (111,2,cp))]) (fun _=>True) ?_ ?_
 · repeat' (first|((with_reducible apply oq_id);first|(apply oq_fn;exact rfl;first|exact trivial|(and_intros<;>omega)|omega|skip))|((with_reducible apply tl_id);first|(with_reducible apply tl_nil)|((with_reducible apply u_q);(iterate 4 exact rfl)))|((with_reducible apply t_id);first|(apply t_region;kernel_rfl)))
   all_goals exact ⟨by trivial,(),trivial,by (repeat' (first|exact FrSub.nil|(apply FrSub.cons;exact rfl))),by (repeat' (first|exact HpSub.refl _))⟩
 rintro ⟨⟩ -
 try dsimp only
 refine t_cut (ι:=Unit) (fun _=>[(0,.slice (some ⟨g,0,none⟩) n cp),(1,.int .i64 ((a:Nat):Int)),(2,.int .i64 ((b:Nat):Int)),(3,.func (.func kf) #[] #[]),(9,.int .i64 (((a+1):Nat):Int))]) (fun _=>[(g,coB fx fy (Z),some (111,2,cp))]) (fun _=>True) ?_ ?_
 · repeat' (first|((with_reducible apply oq_id);first|(focus ((with_reducible apply (oq_addE (k:=((a+1:Nat):Int))));exact rfl;exact rfl;omega))|(apply oq_fn;exact rfl;first|exact trivial|(and_intros<;>omega)|omega|skip))|((with_reducible apply tl_id);first|(with_reducible apply tl_nil)|((with_reducible apply u_q);(iterate 4 exact rfl)))|((with_reducible apply t_id);first|(apply t_region;kernel_rfl)))
   all_goals exact ⟨by trivial,(),trivial,by (repeat' (first|exact FrSub.nil|(apply FrSub.cons;exact rfl))),by (repeat' (first|exact HpSub.refl _))⟩
 rintro ⟨⟩ -
 try dsimp only
 repeat' (first|((with_reducible apply oq_id);first|(apply oq_fn;exact rfl;first|exact trivial|(and_intros<;>omega)|omega|skip))|((with_reducible apply tl_id);first|(with_reducible apply tl_nil)|((with_reducible apply u_q);(iterate 4 exact rfl)))|((with_reducible apply t_id);first|(with_reducible apply t_seq)|(apply t_region;kernel_rfl)|(with_reducible apply t_block))|with_reducible apply q_thenN)
 apply t_loopP (ι:=Unit) [0,1,2,3] (fun _=>[(9,.int .i64 (((a+1):Nat):Int)),(10,.int .i64 0)]) (fun _=>[(g,coB fx fy (Z),some (111,2,cp))]) (fun _=>True) (fun _=>0) ()
 (repeat (first|exact KeepF.nil|(apply KeepF.cons;exact rfl)|apply KeepF.skip))
 (repeat first|exact FrSub.nil|(apply FrSub.cons;exact rfl))
 (try simp only [List.cons_append,List.nil_append])
 (repeat' (first|exact HpSub.refl _))
 · trivial
 rintro ⟨⟩ -
 try simp only [List.cons_append,List.nil_append]
 refine t_cut (ι:=Unit) (fun _=>[(9,.int .i64 (((a+1):Nat):Int)),(0,.slice (some ⟨g,0,none⟩) n cp),(1,.int .i64 ((a:Nat):Int)),(2,.int .i64 ((b:Nat):Int)),(3,.func (.func kf) #[] #[]),(10,.int .i64 0)]) (fun _=>[(g,coB fx fy (Z),some (111,2,cp))]) (fun _=>True) ?_ ?_
 · repeat' (first|((with_reducible apply oq_id);first|((with_reducible apply oq_lssT);exact rfl;exact rfl;omega)|(apply oq_fn;exact rfl;first|exact trivial|(and_intros<;>omega)|omega|skip))|((with_reducible apply tl_id);first|(with_reducible apply tl_nil)|((with_reducible apply u_q);(iterate 4 exact rfl)))|((with_reducible apply t_id);first|(with_reducible apply t_seq)|(apply t_region;kernel_rfl)|((with_reducible apply t_condT);exact rfl)|(with_reducible apply t_skip))|with_reducible apply q_thenN)
   all_goals exact ⟨by trivial,(),trivial,by (repeat' (first|exact FrSub.nil|(apply FrSub.cons;exact rfl))),by (repeat' (first|exact HpSub.refl _))⟩
 rintro ⟨⟩ -
 with_reducible apply t_seq
 with_reducible apply t_block
 refine t_cut (ι:=Nat) (fun i=>[(9,.int .i64 ((i:Nat):Int)),(0,.slice (some ⟨g,0,none⟩) n cp),(1,.int .i64 ((a:Nat):Int)),(2,.int .i64 ((b:Nat):Int)),(3,.func (.func kf) #[] #[]),(10,.int .i64 0)]) (fun _=>[(g,coB fx fy (Z),some (111,2,cp))]) (fun i=>a+1≤i∧i≤b∧So lt a i Z) ?_ ?_
 · repeat' (first|((with_reducible apply t_id);first|(with_reducible apply t_block)))
   apply t_loopP (ι:=Nat) [0,1,2,3,10] (fun i=>[(9,.int .i64 ((i:Nat):Int))]) (fun _=>[(g,coB fx fy (Z),some (111,2,cp))]) (fun i=>a+1≤i∧i≤b∧So lt a i Z) (fun i=>b-i) (a+1)
   (repeat (first|exact KeepF.nil|(apply KeepF.cons;exact rfl)|apply KeepF.skip))
   (repeat first|exact FrSub.nil|(apply FrSub.cons;exact rfl))
   (try simp only [List.cons_append,List.nil_append])
   (repeat' (first|exact HpSub.refl _))
   · exact ⟨Nat.le_refl _,hab,fun p q u v h1 h2 h3=>absurd h3 (by omega)⟩
   rintro i ⟨hi,hib,hso⟩
   try simp only [List.cons_append,List.nil_append]
   by_cases hlt:i<b
   rotate_left
   · repeat' (first|((with_reducible apply oq_id);first|((with_reducible apply oq_lssF);exact rfl;exact rfl;omega)|(apply oq_fn;exact rfl;first|exact trivial|(and_intros<;>omega)|omega|skip))|((with_reducible apply gx_id);first|(with_reducible apply v_nil)|((with_reducible apply v_q);(iterate 3 exact rfl))|((with_reducible apply v_skip);(iterate 3 exact rfl)))|((with_reducible apply t_id);first|(with_reducible apply t_seq)|(apply t_drawn;kernel_rfl;decide +kernel;try simp only [List.append_eq,List.cons_append,List.nil_append])|((with_reducible apply t_condF);exact rfl)|(with_reducible apply t_exit))|with_reducible apply q_thenN|with_reducible apply q_thenE|((with_reducible apply q_blockE);exact rfl))
     all_goals exact ⟨by trivial,i,⟨hi,hib,hso⟩,by (repeat' (first|exact FrSub.nil|(apply FrSub.cons;exact rfl))),by (repeat' (first|exact HpSub.refl _))⟩
   obtain ⟨x,hx⟩:∃ x,Z[i]?=some x:=⟨_,List.getElem?_eq_getElem (by omega)⟩
   obtain ⟨y,hy⟩:∃ y,Z[i-1]?=some y:=⟨_,List.getElem?_eq_getElem (by omega)⟩
   obtain ⟨q0,q1⟩:=co_at (fx:=fx) (fy:=fy) hx
   obtain ⟨r0,r1⟩:=co_at (fx:=fx) (fy:=fy) hy
   obtain ⟨o,HC,ho⟩:=HK.cmp x y
   by_cases HN:o<0
   · repeat' (first|((with_reducible apply oq_id);first|((with_reducible apply oq_lssT);exact rfl;exact rfl;exact HN)|(focus ((with_reducible apply oq_indexAddrN);(iterate 4 exact rfl);omega))|(focus ((with_reducible apply (oq_subE (k:=((i-1:Nat):Int))));exact rfl;exact rfl;omega))|((with_reducible apply oq_lssT);exact rfl;exact rfl;omega)|(apply oq_fn;exact rfl;first|exact trivial|(and_intros<;>omega)|omega|skip)|((with_reducible apply oq_loadAgg);exact rfl;exact rfl)|((with_reducible apply oq_call (k:=kf) (hc:=HK.call));exact rfl;exact rfl;exact fun D w1 hw1=>HC w1))|((with_reducible apply gx_id);first|(with_reducible apply v_nil)|((with_reducible apply v_q);(iterate 3 exact rfl)))|((with_reducible apply rd_id);first|(apply Rd.own;(repeat first|exact P0|apply P1);with_reducible (first|exact q0|exact q1|exact r0|exact r1|exact s0|exact s1);done))|((with_reducible apply t_id);first|(apply t_mix (id:=5) [0,1,2,3,4,5,6,7,8,9,10,11,12,13,14,15,16,17] 0 #[false,false,false,false,false,false,false,false,false,false,false,false,false,false,false,false,false,false];kernel_rfl;kernel_rfl;exact rfl)|(with_reducible apply t_seq)|((with_reducible apply t_condF);exact rfl)|(with_reducible apply t_exit))|with_reducible apply q_thenN|with_reducible apply q_thenE|((with_reducible apply q_blockE);exact rfl)|exact Rdn.zero|apply Rdn.succ|((with_reducible apply al_id);first|(apply al_done;decide +kernel)))
     all_goals exact ⟨by trivial,i,⟨hi,hib,hso⟩,by (repeat' (first|exact FrSub.nil|(apply FrSub.cons;exact rfl))),by (repeat' (first|exact HpSub.refl _))⟩
   · have hl:lt x y=false:=by
       cases hc:lt x y with
       | false=>rfl
       | true=>exact absurd (ho.2 hc) HN
     repeat' (first|((with_reducible apply oq_id);first|((with_reducible apply oq_lssF);exact rfl;exact rfl;exact HN)|(focus ((with_reducible apply oq_indexAddrN);(iterate 4 exact rfl);omega))|(focus ((with_reducible apply (oq_subE (k:=((i-1:Nat):Int))));exact rfl;exact rfl;omega))|(focus ((with_reducible apply (oq_addE (k:=((i+1:Nat):Int))));exact rfl;exact rfl;omega))|((with_reducible apply oq_lssT);exact rfl;exact rfl;omega)|(apply oq_fn;exact rfl;first|exact trivial|(and_intros<;>omega)|omega|skip)|((with_reducible apply oq_loadAgg);exact rfl;exact rfl)|((with_reducible apply oq_call (k:=kf) (hc:=HK.call));exact rfl;exact rfl;exact fun D w1 hw1=>HC w1))|((with_reducible apply tl_id);first|(with_reducible apply tl_nil)|((with_reducible apply u_q);(iterate 4 exact rfl)))|((with_reducible apply gx_id);first|(with_reducible apply v_nil)|((with_reducible apply v_q);(iterate 3 exact rfl)))|((with_reducible apply rd_id);first|(apply Rd.own;(repeat first|exact P0|apply P1);with_reducible (first|exact q0|exact q1|exact r0|exact r1|exact s0|exact s1);done))|((with_reducible apply t_id);first|(apply t_mix (id:=5) [0,1,2,3,4,5,6,7,8,9,10,11,12,13,14,15,16,17] 0 #[false,false,false,false,false,false,false,false,false,false,false,false,false,false,false,false,false,false];kernel_rfl;kernel_rfl;exact rfl)|(with_reducible apply t_seq)|(apply t_region;kernel_rfl)|((with_reducible apply t_condT);exact rfl)|(with_reducible apply t_skip)|(with_reducible apply t_block))|with_reducible apply q_thenN|with_reducible apply q_blockN|exact Rdn.zero|apply Rdn.succ|((with_reducible apply al_id);first|(apply al_done;decide +kernel)))
     all_goals (refine ⟨i+1,⟨by omega,by omega,hso.snoc hw hi hx hy hl⟩,by omega,?_,?_⟩<;>(repeat' (first|exact FrSub.nil|(apply FrSub.cons;exact rfl)|exact HpSub.refl _)))
 rintro i ⟨hi,hib,hso⟩
 try dsimp only
 by_cases hib2:i=b
 · subst hib2
   repeat' (first|((with_reducible apply oq_id);first|((with_reducible apply oq_eqlT);exact rfl;exact rfl;omega)|(apply oq_fn;exact rfl;first|exact trivial|(and_intros<;>omega)|omega|skip))|((with_reducible apply tl_id);first|(with_reducible apply tl_nil)|((with_reducible apply u_q);(iterate 4 exact rfl)))|((with_reducible apply t_id);first|(with_reducible apply t_seq)|(apply t_region;kernel_rfl)|((with_reducible apply t_condT);exact rfl)|(with_reducible apply t_ret))|with_reducible apply q_thenN|with_reducible apply q_thenR|with_reducible apply q_blockR|(with_reducible apply end_ret)|exact rvs_nil|(with_reducible apply rvs_cons)|((with_reducible apply rv_tmp);exact rfl))
   all_goals exact ⟨_,⟨true,rfl,fun _=>hso,rfl⟩,HpSub.w (by (repeat (first|exact HpSub.refl _|(apply HpSub.consE;(repeat first|exact P0|apply P1);exact rfl)|apply HpSub.skipX|exact HpSub.nil)))⟩
 · repeat' (first|((with_reducible apply oq_id);first|(focus ((with_reducible apply (oq_subE (k:=((b-a:Nat):Int))));exact rfl;exact rfl;omega))|((with_reducible apply oq_eqlF);exact rfl;exact rfl;omega)|((with_reducible apply oq_lssT);exact rfl;exact rfl;omega)|(apply oq_fn;exact rfl;first|exact trivial|(and_intros<;>omega)|omega|skip))|((with_reducible apply tl_id);first|(with_reducible apply tl_nil)|((with_reducible apply u_q);(iterate 4 exact rfl)))|((with_reducible apply t_id);first|(with_reducible apply t_seq)|(apply t_region;kernel_rfl)|((with_reducible apply t_condT);exact rfl)|((with_reducible apply t_condF);exact rfl)|(with_reducible apply t_ret)|(with_reducible apply t_skip))|with_reducible apply q_thenN|with_reducible apply q_thenR|with_reducible apply q_blockR|(with_reducible apply end_ret)|exact rvs_nil|(with_reducible apply rvs_cons)|((with_reducible apply rv_tmp);exact rfl))
   all_goals exact ⟨_,⟨false,rfl,(fun e=>nomatch e),rfl⟩,HpSub.w (by (repeat (first|exact HpSub.refl _|(apply HpSub.consE;(repeat first|exact P0|apply P1);exact rfl)|apply HpSub.skipX|exact HpSub.nil)))⟩
theorem order_calls (a b a' b':Int) (w:World):Calls Try.prog 163 #[.agg #[.int .i64 a,.int .i64 b],.agg #[.int .i64 a',.int .i64 b']] w fun e w'=>e=.returned (.int .i64 (if ordV a a'=0 then ordV b b' else ordV a a'))∧Ext w w':=by
 obtain ⟨p,hp⟩:∃ p,ordV a a'=p:=⟨_,rfl⟩
 obtain ⟨q,hq⟩:∃ q,ordV b b'=q:=⟨_,rfl⟩
 have H1:=fun w1=>cmp_calls a a' w1
 have H2:=fun w1=>cmp_calls b b' w1
 rw [hp] at H1 ⊢
 rw [hq] at H2 ⊢
 refine enterQ (c:=cx w 17) Try.func163 rfl rfl rfl rfl ?_
 repeat' (first|((with_reducible apply oq_id);first|(apply oq_fn;exact rfl;first|exact trivial|(and_intros<;>omega)|omega|skip)|((with_reducible apply oq_load);exact rfl;exact rfl)|((with_reducible apply oq_call (hc:=Try.call160));exact rfl;exact rfl;exact fun D w1 hw1=>H1 w1)|((with_reducible apply oq_call (hc:=Try.call160));exact rfl;exact rfl;exact fun D w1 hw1=>H2 w1)|((with_reducible apply oq_call (hc:=Try.call159));exact rfl;exact rfl;exact fun D w1 hw1=>or_calls _ _ _ _ w1 (hw1.cellAt (by (repeat first|exact P0|apply P1)) rfl) (hw1.cellAt (by (repeat first|exact P0|apply P1)) rfl)))|((with_reducible apply tl_id);first|(with_reducible apply tl_nil)|((with_reducible apply u_q);(iterate 4 exact rfl))|((with_reducible apply u_s);(iterate 3 exact rfl)))|((with_reducible apply gx_id);first|(with_reducible apply v_nil)|((with_reducible apply v_q);(iterate 3 exact rfl)))|((with_reducible apply os_id);first|((with_reducible apply os_x);exact rfl))|((with_reducible apply ox_id);first|((with_reducible apply ox_boxAgg);exact rfl;intro _)|((with_reducible apply ox_buildSlice1);(iterate 6 exact rfl);intro _))|((with_reducible apply ai_id);first|((with_reducible apply ai_q);(iterate 5 exact rfl))|((with_reducible apply ai_x);(iterate 5 exact rfl)))|((with_reducible apply rd_id);first|(apply Rd.own;(repeat first|exact P0|apply P1);exact rfl;done))|((with_reducible apply t_id);first|(apply t_mix (id:=1) [0,1,2,3,4,5,6,7,8,9] 3 #[false,false,false,false,false,false,false,false,false,false,false,false,false];kernel_rfl;kernel_rfl;exact rfl)|(with_reducible apply t_seq)|(apply t_region;kernel_rfl)|(with_reducible apply t_ret))|with_reducible apply q_thenN|(with_reducible apply end_ret)|exact rvs_nil|(with_reducible apply rvs_cons)|((with_reducible apply rv_tmp);exact rfl)|((with_reducible apply al_id);first|(apply al_done;decide +kernel)|(apply al_one 10;decide +kernel)|(apply al_one 11;decide +kernel)|(apply al_one 12;decide +kernel)))
 all_goals rfl
theorem woP:Wo ltP:=by
 refine ⟨fun a b h=>?_,fun a b c h k=>?_⟩
 · cases h2:ltP b a with
   | false=>rfl
   | true=>have:=ltP_iff.1 h;have:=ltP_iff.1 h2;omega
 · cases h2:ltP c a with
   | false=>rfl
   | true=>
     have h3:¬ ltP b a=true:=by rw [h];simp
     have h4:¬ ltP c b=true:=by rw [k];simp
     rw [ltP_iff] at h2 h3 h4
     omega
theorem cmpP:CmpOk Pv.x Pv.y ltP 163:=by
 refine ⟨fun a w=>Try.call163 a w,fun x y=>⟨_,fun w1=>order_calls x.x x.y y.x y.y w1,?_⟩⟩
 rw [ltP_iff]
 unfold ordV
 repeat' split
 all_goals omega
structure Rv {α:Type} (Z Y:List α) (i:Nat):Prop where
 len:Y.length=Z.length
 hd:∀ k,k<i→Y[k]?=Z[Z.length-1-k]?∧Y[Z.length-1-k]?=Z[k]?
 mid:∀ k,i≤k→k+i<Z.length→Y[k]?=Z[k]?
theorem Rv.start {α:Type} {Z:List α}:Rv Z Z 0:=⟨rfl,fun k h=>absurd h (by omega),fun _ _ _=>rfl⟩
theorem Rv.step {α:Type} {Z Y:List α} {i:Nat} {x y:α} (h:Rv Z Y i) (hi:i<Z.length-1-i) (hx:Y[i]?=some x) (hy:Y[Z.length-1-i]?=some y):Rv Z ((Y.set i y).set (Z.length-1-i) x) (i+1):=by
 have hl:=h.len
 have hx2:Z[i]?=some x:=by rw [← h.mid i (Nat.le_refl _) (by omega)];exact hx
 have hy2:Z[Z.length-1-i]?=some y:=by rw [← h.mid _ (by omega) (by omega)];exact hy
 have e:∀ k,k≠i→k≠Z.length-1-i→((Y.set i y).set (Z.length-1-i) x)[k]?=Y[k]?:=fun k h1 h2=>by
   rw [List.getElem?_set_ne (Ne.symm h2),List.getElem?_set_ne (Ne.symm h1)]
 have e1:((Y.set i y).set (Z.length-1-i) x)[i]?=some y:=by
   rw [List.getElem?_set_ne (by omega),List.getElem?_set_self (by omega)]
 have e2:((Y.set i y).set (Z.length-1-i) x)[Z.length-1-i]?=some x:=by
   rw [List.getElem?_set_self (by simp only [List.length_set];omega)]
 refine ⟨by simp [hl],fun k hk=>?_,fun k h1 h2=>?_⟩
 · rcases Nat.lt_or_ge k i with q|q
   · rw [e k (by omega) (by omega),e _ (by omega) (by omega)]
     exact h.hd k q
   · obtain rfl:k=i:=by omega
     rw [e1,e2,hx2,hy2];exact ⟨rfl,rfl⟩
 · rw [e k (by omega) (by omega)]
   exact h.mid k (by omega) (by omega)
theorem Rv.done {α:Type} {Z Y:List α} {i:Nat} (h:Rv Z Y i) (hi:Z.length≤2*i+1):Y=Z.reverse:=by
 have hl:=h.len
 refine List.ext_getElem? fun k=>?_
 rcases Nat.lt_or_ge k Z.length with q|q
 · rw [List.getElem?_reverse q]
   rcases Nat.lt_or_ge k i with q2|q2
   · exact (h.hd k q2).1
   · rcases Nat.lt_or_ge (Z.length-1-k) i with q3|q3
     · have:=(h.hd _ q3).2
       rw [show Z.length-1-(Z.length-1-k)=k by omega] at this
       exact this
     · rw [show Z.length-1-k=k by omega]
       exact h.mid k q2 (by omega)
 · rw [List.getElem?_eq_none (by omega),List.getElem?_eq_none (by simp;omega)]
theorem rev_M {α:Type} {fx fy:α→Int} (g cp n:Nat) (Z:List α) (w:World) (hH:Has w ⟨[g],[]⟩ [(g,coB fx fy (Z),some (111,2,cp))] w) (hn:Z.length=n) (hn1:n≤1000000) :
   Calls Try.prog 166 #[.slice (some ⟨g,0,none⟩) n cp] w fun e w'=>∃ v H1,e=.returned v∧(v=.tuple #[]∧H1=[(g,coB fx fy (Z.reverse),some (111,2,cp))])∧Has w ⟨[g],[]⟩ H1 w':=by
 refine enterM (c:=cxM [g] w 28) Try.func166 rfl rfl rfl hH ?_
 refine t_cut (ι:=Unit) (fun _=>[(0,.slice (some ⟨g,0,none⟩) n cp),(2,.int .i64 ((0:Nat):Int)),(3,.int .i64 (((n:Nat):Int)-1-((0:Nat):Int)))]) (fun _=>[(g,coB fx fy (Z),some (111,2,cp))]) (fun _=>True) ?_ ?_
 · repeat' (first|((with_reducible apply oq_id);first|(focus ((with_reducible apply (oq_subE (k:=(((n:Nat):Int)-1-((0:Nat):Int)))));exact rfl;exact rfl;omega))|(apply oq_fn;exact rfl;first|exact trivial|(and_intros<;>omega)|omega|skip))|((with_reducible apply tl_id);first|(with_reducible apply tl_nil)|((with_reducible apply u_q);(iterate 4 exact rfl)))|((with_reducible apply t_id);first|(apply t_region;kernel_rfl)))
   all_goals exact ⟨by trivial,(),trivial,by (repeat' (first|exact FrSub.nil|(apply FrSub.cons;exact rfl))),by (repeat' (first|exact HpSub.refl _))⟩
 rintro ⟨⟩ -
 try dsimp only
 (with_reducible apply t_block)
 apply t_loopP (ι:=Nat×List α) [0] (fun z=>[(2,.int .i64 ((z.1:Nat):Int)),(3,.int .i64 (((n:Nat):Int)-1-((z.1:Nat):Int)))]) (fun z=>[(g,coB fx fy (z.2),some (111,2,cp))]) (fun z=>Rv Z z.2 z.1∧z.1≤n) (fun z=>n-z.1) (0,Z)
 (repeat (first|exact KeepF.nil|(apply KeepF.cons;exact rfl)|apply KeepF.skip))
 (repeat first|exact FrSub.nil|(apply FrSub.cons;exact rfl))
 (try simp only [List.cons_append,List.nil_append])
 (repeat' (first|exact HpSub.refl _))
 · exact ⟨Rv.start,Nat.zero_le _⟩
 rintro ⟨i,Y⟩ ⟨hr,hin⟩
 simp only at hr hin
 try simp only [List.cons_append,List.nil_append]
 have hYl:=hr.len
 by_cases hlt:i+i+1<n
 · obtain ⟨x,hx⟩:∃ x,Y[i]?=some x:=⟨_,List.getElem?_eq_getElem (by omega)⟩
   obtain ⟨y,hy⟩:∃ y,Y[Z.length-1-i]?=some y:=⟨_,List.getElem?_eq_getElem (by omega)⟩
   have hst:=hr.step (by omega) hx hy
   have hy2:=swp_get hx hy
   rw [show ((n:Nat):Int)-1-((i:Nat):Int)=((Z.length-1-i:Nat):Int) by omega]
   obtain ⟨q0,q1⟩:=co_at (fx:=fx) (fy:=fy) hx
   obtain ⟨r0,r1⟩:=co_at (fx:=fx) (fy:=fy) hy
   repeat' (first|((with_reducible apply oq_id);first|(focus ((with_reducible apply oq_indexAddrN);(iterate 4 exact rfl);omega))|(focus ((with_reducible apply (oq_addE (k:=((i+1:Nat):Int))));exact rfl;exact rfl;omega))|(focus ((with_reducible apply (oq_subE (k:=(((n:Nat):Int)-1-((i+1:Nat):Int)))));exact rfl;exact rfl;omega))|((with_reducible apply oq_lssT);exact rfl;exact rfl;omega)|(apply oq_fn;exact rfl;first|exact trivial|(and_intros<;>omega)|omega|skip)|((with_reducible apply oq_loadAgg);exact rfl;exact rfl))|((with_reducible apply tl_id);first|(with_reducible apply tl_nil)|((with_reducible apply u_q);(iterate 4 exact rfl)))|((with_reducible apply gx_id);first|(with_reducible apply v_nil)|((with_reducible apply v_q);(iterate 3 exact rfl)))|((with_reducible apply os_id);first|((with_reducible apply (os_storeCo (fx:=fx) (fy:=fy) y hx rfl));(iterate 3 exact rfl);(repeat first|exact P0|apply P1))|((with_reducible apply (os_storeCo (fx:=fx) (fy:=fy) x hy2 rfl));(iterate 3 exact rfl);(repeat first|exact P0|apply P1)))|((with_reducible apply ai_id);first|((with_reducible apply ai_q);(iterate 5 exact rfl))|((with_reducible apply ai_n0);(iterate 3 exact rfl)))|((with_reducible apply al_keep);focus (repeat (first|exact HpSub.refl _|(apply HpSub.cons;(repeat first|exact P0|apply P1))|apply HpSub.skipX|exact HpSub.nil)))|((with_reducible apply rd_id);first|(apply Rd.own;(repeat first|exact P0|apply P1);with_reducible (first|exact q0|exact q1|exact r0|exact r1|exact s0|exact s1);done))|((with_reducible apply t_id);first|(apply t_mixZ (id:=3) [0,1,2,3,4,5,6,8,9,10] 6;kernel_rfl;kernel_rfl;exact rfl)|(with_reducible apply t_seq)|(apply t_region;kernel_rfl)|((with_reducible apply t_condT);exact rfl)|(with_reducible apply t_skip)|(with_reducible apply t_block))|with_reducible apply q_thenN|with_reducible apply q_blockN|exact Rdn.zero|apply Rdn.succ|((with_reducible apply al_id);first|(apply al_done;decide +kernel)|(apply al_one 7;decide +kernel)|(apply al_one 11;decide +kernel)|(apply al_one 12;decide +kernel)|(apply al_one 13;decide +kernel)|(apply al_one 14;decide +kernel)|(apply al_one 15;decide +kernel)|(apply al_two 7 11;decide +kernel)))
   all_goals (refine ⟨(i+1,(Y.set i y).set (Z.length-1-i) x),⟨hst,(by simp only;omega)⟩,(by simp only;omega),?_,?_⟩<;>(repeat' (first|exact FrSub.nil|(apply FrSub.cons;exact rfl)|exact HpSub.refl _)))
 · obtain rfl:=hr.done (by omega)
   repeat' (first|((with_reducible apply oq_id);first|((with_reducible apply oq_lssF);exact rfl;exact rfl;omega)|(apply oq_fn;exact rfl;first|exact trivial|(and_intros<;>omega)|omega|skip))|((with_reducible apply tl_id);first|(with_reducible apply tl_nil)|((with_reducible apply u_q);(iterate 4 exact rfl)))|((with_reducible apply t_id);first|(with_reducible apply t_seq)|(apply t_region;kernel_rfl)|((with_reducible apply t_condF);exact rfl)|(with_reducible apply t_exit))|with_reducible apply q_thenN|with_reducible apply q_thenE|((with_reducible apply q_blockE);exact rfl)|(with_reducible apply end_normal)|exact rvs_nil)
   all_goals exact ⟨_,⟨rfl,rfl⟩,HpSub.w (by (repeat (first|exact HpSub.refl _|(apply HpSub.consE;(repeat first|exact P0|apply P1);exact rfl)|apply HpSub.skipX|exact HpSub.nil)))⟩
end Go.Proofs.Ytcjkndjjbjoehaa
namespace Go.Proofs.Ytcjkndjjbjoehaa
open Go.RowKit
section
variable {w:World} {N:Nat} {F:Fr} {H:Hp} {M:List Nat} {d:Option Tmp} {ty t':TypeId} {pos:String} {af:Array Edge} {g:Option (Nat×Bool)} {x y:Operand} {a b a' b':Int}
theorem eq_co {d:Nat}:(Op.equalIn (d+2) 111 (.agg ⟨[.int .i64 a,.int .i64 b]⟩) (.agg ⟨[.int .i64 a',.int .i64 b']⟩)).run Try.prog w=.ok (decide (a=a') && (decide (b=b') && true)) w:=by
 rw [run_equalIn_struct w (d+1) 111 _ _ (by kernel_rfl) (by kernel_rfl)]
 simp only [Program.fieldsOf,Try.underlying111]
 exact eqF_int rfl rfl rfl rfl rfl (eqF_int rfl rfl rfl rfl rfl eqF_nil)
theorem oq_eq111 {q:Bool} (hx:ev F x=some (.agg ⟨[.int .i64 a,.int .i64 b]⟩)) (hy:ev F y=some (.agg ⟨[.int .i64 a',.int .i64 b']⟩)) (hq:decide (a=a'∧b=b')=q):OQ (cxM M w N) ⟨d,.binOp .eql 111 x y t',ty,pos,af,g⟩ F H (.bool q):=
 oq_eqS (q:=q) (by kernel_rfl) (fun w=>by rw [eq_co (d:=9998),← hq];simp [Bool.decide_and]) hx hy
theorem oq_ne111 {q:Bool} (hx:ev F x=some (.agg ⟨[.int .i64 a,.int .i64 b]⟩)) (hy:ev F y=some (.agg ⟨[.int .i64 a',.int .i64 b']⟩)) (hq:(!decide (a=a'∧b=b'))=q):OQ (cxM M w N) ⟨d,.binOp .neq 111 x y t',ty,pos,af,g⟩ F H (.bool q):=by
 subst hq
 exact oq_neS (q:=decide (a=a'∧b=b')) (by kernel_rfl) (fun w=>by rw [eq_co (d:=9998)];simp [Bool.decide_and]) hx hy
end
section
variable {c:Cx} {F:Fr} {H H':Hp} {K:Value→Hp→Prop} {d:Option Tmp} {ty:TypeId} {pos:String} {af:Array Edge} {gd:Option (Nat×Bool)} {t:TypeId} {x:Operand} {a0 a1:Bool} {s0 s1:Nat} {z0 z1:List Value} {k1:TyK} {g:Nat} {tg:Tg} {C:List Value}
theorem os_clear {e o n cap:Nat} (ht:tyAt c.tys t=some ⟨a0,s0,z0,.slice e⟩) (he:tyAt c.tys e=some ⟨a1,s1,z1,k1⟩) (h0:z1.length=s1) (h1:∀ v∈z1,v.oneCell'=true) (hx:ev F x=some (.slice (some ⟨g,o,none⟩) n cap)) (hp:Pick H g C tg H') (hn:0<n) (hn1:o+n*s1≤C.length)
   (kk:∀ zs:List Value,zs.length=n*s1→K (.tuple #[]) ((g,setL C o zs,tg)::H')):OS c ⟨d,.call ⟨.builtin .clear,#[x],#[t]⟩,ty,pos,af,gd⟩ F H K:=by
 intro D a w ha hw
 have hw':=hw.perm hp.perm
 have hb:=(hw'.blk _ (List.mem_cons_self ..)).2
 obtain ⟨v,hv,hc⟩:=(c.ty he).zero w
 have hl:(Builtin.zeroCells v.cells n).toList.length=n*s1:=by
   rw [hc];simp [Builtin.zeroCells,h0]
 have hm:∀ u∈(Builtin.zeroCells v.cells n).toList,u.oneCell'=true:=by
   rw [hc]
   intro u hu
   simp only [Builtin.zeroCells,Array.toList_map,Array.toList_range,List.mem_map,List.mem_range,List.size_toArray] at hu
   obtain ⟨i,hi,rfl⟩:=hu
   have hpos:0<z1.length:=by
     rcases Nat.eq_zero_or_pos z1.length with e|e
     · rw [e] at hi;omega
     · exact e
   have hlt:i % z1.length<z1.length:=Nat.mod_lt _ hpos
   have:z1.toArray[i % z1.length]! = z1[i % z1.length]:=by simp [hlt]
   rw [this]
   exact h1 _ (List.getElem_mem _)
 obtain ⟨w',h2,h3,h4⟩:=run_storeCells c.P g o (Builtin.zeroCells v.cells n).toList 0 w C tg hb (by rw [hl];omega) hm
 have hk:=(c.ty ht).kind w
 obtain ⟨m,rfl⟩:∃ m,n=m+1:=⟨n-1,by omega⟩
 have:(execOp a.eval ⟨d,.call ⟨.builtin .clear,#[x],#[t]⟩,ty,pos,af,gd⟩).run c.P w=.ok (.value (.tuple #[])) w':=by
   simp [execOp,resolve,invoke,builtin,ha.ev hx,Builtin.clear_,Sem.run_bind,Sem.run_pure,Result.andThen,hk,hv,h2]
 rw [this]
 exact ⟨_,kk _ hl,hw'.wrote h4 (by simpa using h3)⟩
end
end Go.Proofs.Ytcjkndjjbjoehaa
namespace Go.Proofs.Ytcjkndjjbjoehaa
structure OkO (o:Off):Prop where
 now:0≤o.now∧o.now≤1000000
 notice:0≤o.notice∧o.notice≤1000000
 fee:0≤o.fee∧o.fee≤100
 nf:o.fl.length≤10
 nb:o.bk.length≤120
 deps:DepsOk o.fl
 bks:BksOk o.fl o.bk
 fit:o.bk.all (bookedB o.fl o.fee)=true
 seats:(List.range o.fl.length).all (seatB o.fl o.bk)=true
 money:moneyB o=true
 inn : -1000000000≤o.inn∧o.inn≤1000000000
 out : -1000000000≤o.out∧o.out≤1000000000
/-! Sums -/
def cH (fl:List Dep) (x:Bk):Int:=if x.state=1∨x.state=2 then prc fl x else 0
def cE (fl:List Dep) (x:Bk):Int:=if x.state=3 then prc fl x else 0
def cK (fl:List Dep) (x:Bk):Int:=if x.state=4 then x.kept else 0
def cB (fl:List Dep) (x:Bk):Int:=if x.state=4 then prc fl x-x.kept else 0
def sm (f:Bk→Int):List Bk→Int
 | []=>0
 | x::l=>f x+sm f l
/-! Counts -/
def cN (f s:Int) (x:Bk):Int:=if isB f s x=true then 1 else 0
def BkOk (fl:List Dep) (fee:Int) (x:Bk):Prop:=∃ (i:Nat) (d:Dep),x.flight=(i:Int)∧fl[i]?=some d∧((x.state=4∧0≤x.kept∧x.kept≤feeV d.price fee)∨(¬ x.state=4∧fitB d.state x.state=true∧x.kept=0))
structure Semi (o:Off) (i:Nat):Prop where
 now:0≤o.now∧o.now≤1000000
 notice:0≤o.notice∧o.notice≤1000000
 fee:0≤o.fee∧o.fee≤100
 nf:o.fl.length≤10
 nb:o.bk.length≤120
 deps:DepsOk o.fl
 bks:∀ x∈o.bk,BkOk o.fl o.fee x
 seat:∀ (j:Nat) (d:Dep),j≠i→o.fl[j]?=some d→manyV o.bk j 1+manyV o.bk j 3≤d.seats∧(manyV o.bk j 1+manyV o.bk j 3=d.seats∨manyV o.bk j 2≤0)
 inn:o.inn=sm (cH o.fl) o.bk+sm (cE o.fl) o.bk+sm (cK o.fl) o.bk+sm (cB o.fl) o.bk
 out:o.out=sm (cB o.fl) o.bk
end Go.Proofs.Ytcjkndjjbjoehaa
namespace Go.Proofs.Ytcjkndjjbjoehaa
open Go.RowKit
section
variable {c:Cx} {F:Fr} {H:Hp} {d:Option Tmp} {ty t:TypeId} {pos:String} {af:Array Edge} {g:Option (Nat×Bool)} {x y:Operand} {a0 a1:Bool} {s0 s1:Nat} {z0 z1:List Value} {k1:TyK}
theorem oq_sliceHG {e len cap h:Nat} {L:Option Addr} (hn:L=none→len=0∧cap=0) (ht:tyAt c.tys t=some ⟨a0,s0,z0,.slice e⟩) (he:tyAt c.tys e=some ⟨a1,s1,z1,k1⟩)
   (hx:ev F x=some (.slice L len cap)) (hy:ev F y=some (.int .i64 (h:Nat))) (h1:h≤cap) :
   OQ c ⟨d,.slice t x none (some y) none,ty,pos,af,g⟩ F H (.slice L h cap):=.of fun D a w ha _=>by
 have hk:=(c.ty ht).kind w
 have hs:=(c.ty he).size w
 simp only [execOp,Option.map,ha.ev hx,ha.ev hy]
 rcases L with _|⟨b,o,q⟩
 · obtain ⟨rfl,rfl⟩:=hn rfl
   obtain rfl:h=0:=by omega
   simp [Instr.sliceAt,Instr.slice,Instr.sliceBounds,Instr.sliceBound,asIntOf,Sem.run_bind,hk,hs,Result.andThen,go_sem,add_eq]
 · by_cases h2:cap=0
   · subst h2
     simp [Instr.sliceAt,Instr.slice,Instr.sliceBounds,Instr.sliceBound,asIntOf,Sem.run_bind,hk,hs,h1,Result.andThen,go_sem,add_eq]
   · simp [Instr.sliceAt,Instr.slice,Instr.sliceBounds,Instr.sliceBound,asIntOf,Sem.run_bind,hk,hs,h1,h2,Result.andThen,go_sem,add_eq]
end
end Go.Proofs.Ytcjkndjjbjoehaa
namespace Go.Proofs.Ytcjkndjjbjoehaa
open Go.RowKit
attribute [local irreducible] OQ OS OX Rd T TL GX GL AL AI RV wpG SAny Calls
theorem order2_M {α:Type} {fx fy:α→Int} {lt:α→α→Bool} {kf:Nat} (hw:Wo lt) (HK:CmpOk fx fy lt kf) (g cp n i j bs:Nat) (s:Int) (Z:List α) (w:World) (hH:Has w ⟨[g,bs],[]⟩ [(g,coB fx fy (Z),some (111,2,cp)),(bs,[.int .i64 s],some (3,1,1))] w) (hn:Z.length=n) (hn1:n≤1000000) (hi:i<n) (hj:j<n) (hs:0≤s∧s≤2000) :
   Calls Try.prog 219 #[.slice (some ⟨g,0,none⟩) n cp,.int .i64 ((i:Nat):Int),.int .i64 ((j:Nat):Int),.pointer (some ⟨bs,0,none⟩),.func (.func kf) #[] #[]] w fun e w'=>∃ v H1,e=.returned v∧(∃ (i' j':Nat) (s':Int),((i'=i∧j'=j)∨(i'=j∧j'=i))∧s≤s'∧s'≤s+1∧v=.tuple #[.int .i64 ((i':Nat):Int),.int .i64 ((j':Nat):Int)]∧H1=[(g,coB fx fy (Z),some (111,2,cp)),(bs,[.int .i64 s'],some (3,1,1))])∧Has w ⟨[g,bs],[]⟩ H1 w':=by
 obtain ⟨x,hx⟩:∃ x,Z[i]?=some x:=⟨_,List.getElem?_eq_getElem (by omega)⟩
 obtain ⟨y,hy⟩:∃ y,Z[j]?=some y:=⟨_,List.getElem?_eq_getElem (by omega)⟩
 obtain ⟨q0,q1⟩:=co_at (fx:=fx) (fy:=fy) hx
 obtain ⟨r0,r1⟩:=co_at (fx:=fx) (fy:=fy) hy
 obtain ⟨o,HC,ho⟩:=HK.cmp y x
 refine enterM (c:=cxM [g,bs] w 32) Try.func219 rfl rfl rfl hH ?_
 by_cases HN:o<0
 · repeat' (first|((with_reducible apply oq_id);first|(focus ((with_reducible apply oq_indexAddrN);(iterate 4 exact rfl);omega))|((with_reducible apply oq_lssT);exact rfl;exact rfl;exact HN)|(focus ((with_reducible apply (oq_addE (k:=s+1)));exact rfl;exact rfl;omega))|(apply oq_fn;exact rfl;first|exact trivial|(and_intros<;>omega)|omega|skip)|((with_reducible apply oq_load);exact rfl;exact rfl)|((with_reducible apply oq_loadAgg);exact rfl;exact rfl)|((with_reducible apply oq_call (k:=kf) (hc:=HK.call));exact rfl;exact rfl;exact fun D w1 hw1=>HC w1))|((with_reducible apply tl_id);first|(with_reducible apply tl_nil)|((with_reducible apply u_q);(iterate 4 exact rfl))|((with_reducible apply u_s0);exact rfl;exact rfl))|((with_reducible apply gx_id);first|(with_reducible apply v_nil)|((with_reducible apply v_q);(iterate 3 exact rfl)))|((with_reducible apply os_id);first|((with_reducible apply os_store);(iterate 4 exact rfl)))|((with_reducible apply rd_id);first|(apply Rd.own;(repeat first|exact P0|apply P1);with_reducible (first|exact q0|exact q1|exact r0|exact r1|exact s0|exact s1);done)|(apply Rd.own;(repeat first|exact P0|apply P1);exact rfl;done))|((with_reducible apply t_id);first|(apply t_mix (id:=1) [0,1,2,3,4,5,6,7,8,9,10] 0 #[false,false,false,false,false,false,false,false,false,false,false];kernel_rfl;kernel_rfl;exact rfl)|(with_reducible apply t_seq)|(apply t_region;kernel_rfl)|((with_reducible apply t_condT);exact rfl)|(with_reducible apply t_ret))|with_reducible apply q_thenN|with_reducible apply q_thenR|exact P0|(with_reducible apply P1)|exact Rdn.zero|apply Rdn.succ|((with_reducible apply Norm.nil);exact rfl)|((with_reducible apply Norm.cons);exact rfl)|(with_reducible apply end_ret)|exact rvs_nil|(with_reducible apply rvs_cons)|((with_reducible apply rv_tmp);exact rfl)|((with_reducible apply al_id);first|(apply al_done;decide +kernel))|exact Nat.le_of_ble_eq_true rfl)
   all_goals exact ⟨_,⟨j,i,s+1,.inr ⟨rfl,rfl⟩,by omega,by omega,rfl,rfl⟩,HpSub.w (by (repeat (first|exact HpSub.refl _|(apply HpSub.consE;(repeat first|exact P0|apply P1);exact rfl)|apply HpSub.skipX|exact HpSub.nil)))⟩
 · repeat' (first|((with_reducible apply oq_id);first|(focus ((with_reducible apply oq_indexAddrN);(iterate 4 exact rfl);omega))|((with_reducible apply oq_lssF);exact rfl;exact rfl;exact HN)|(apply oq_fn;exact rfl;first|exact trivial|(and_intros<;>omega)|omega|skip)|((with_reducible apply oq_loadAgg);exact rfl;exact rfl)|((with_reducible apply oq_call (k:=kf) (hc:=HK.call));exact rfl;exact rfl;exact fun D w1 hw1=>HC w1))|((with_reducible apply tl_id);first|(with_reducible apply tl_nil)|((with_reducible apply u_q);(iterate 4 exact rfl)))|((with_reducible apply gx_id);first|(with_reducible apply v_nil)|((with_reducible apply v_q);(iterate 3 exact rfl)))|((with_reducible apply rd_id);first|(apply Rd.own;(repeat first|exact P0|apply P1);with_reducible (first|exact q0|exact q1|exact r0|exact r1|exact s0|exact s1);done))|((with_reducible apply t_id);first|(apply t_mix (id:=1) [0,1,2,3,4,5,6,7,8,9,10] 0 #[false,false,false,false,false,false,false,false,false,false,false];kernel_rfl;kernel_rfl;exact rfl)|(with_reducible apply t_seq)|(apply t_region;kernel_rfl)|((with_reducible apply t_condF);exact rfl)|(with_reducible apply t_ret)|(with_reducible apply t_skip))|with_reducible apply q_thenN|exact Rdn.zero|apply Rdn.succ|(with_reducible apply end_ret)|exact rvs_nil|(with_reducible apply rvs_cons)|((with_reducible apply rv_tmp);exact rfl)|((with_reducible apply al_id);first|(apply al_done;decide +kernel)))
   all_goals exact ⟨_,⟨i,j,s,.inl ⟨rfl,rfl⟩,by omega,by omega,rfl,rfl⟩,HpSub.w (by (repeat (first|exact HpSub.refl _|(apply HpSub.consE;(repeat first|exact P0|apply P1);exact rfl)|apply HpSub.skipX|exact HpSub.nil)))⟩
theorem median_M {α:Type} {fx fy:α→Int} {lt:α→α→Bool} {kf:Nat} (hw:Wo lt) (HK:CmpOk fx fy lt kf) (g cp n i j k bs:Nat) (s:Int) (Z:List α) (w:World) (hH:Has w ⟨[g,bs],[]⟩ [(g,coB fx fy (Z),some (111,2,cp)),(bs,[.int .i64 s],some (3,1,1))] w) (hn:Z.length=n) (hn1:n≤1000000) (hi:i<n) (hj:j<n) (hk:k<n) (hs:0≤s∧s≤1000) :
   Calls Try.prog 214 #[.slice (some ⟨g,0,none⟩) n cp,.int .i64 ((i:Nat):Int),.int .i64 ((j:Nat):Int),.int .i64 ((k:Nat):Int),.pointer (some ⟨bs,0,none⟩),.func (.func kf) #[] #[]] w fun e w'=>∃ v H1,e=.returned v∧(∃ (r:Nat) (s':Int),(r=i∨r=j∨r=k)∧s≤s'∧s'≤s+3∧v=.int .i64 ((r:Nat):Int)∧H1=[(g,coB fx fy (Z),some (111,2,cp)),(bs,[.int .i64 s'],some (3,1,1))])∧Has w ⟨[g,bs],[]⟩ H1 w':=by
 refine enterM (c:=cxM [g,bs] w 41) Try.func214 rfl rfl rfl hH ?_
 refine t_cut (ι:=Unit) (fun _=>[(0,.slice (some ⟨g,0,none⟩) n cp),(1,.int .i64 ((i:Nat):Int)),(2,.int .i64 ((j:Nat):Int)),(3,.int .i64 ((k:Nat):Int)),(4,.pointer (some ⟨bs,0,none⟩)),(5,.func (.func kf) #[] #[])]) (fun _=>[(g,coB fx fy (Z),some (111,2,cp)),(bs,[.int .i64 s],some (3,1,1))]) (fun _=>True) ?_ ?_
 · repeat' (first|((with_reducible apply oq_id);first|(apply oq_fn;exact rfl;first|exact trivial|(and_intros<;>omega)|omega|skip))|((with_reducible apply tl_id);first|(with_reducible apply tl_nil)|((with_reducible apply u_q);(iterate 4 exact rfl)))|((with_reducible apply t_id);first|(apply t_region;kernel_rfl)))
   all_goals exact ⟨by trivial,(),trivial,by (repeat' (first|exact FrSub.nil|(apply FrSub.cons;exact rfl))),by (repeat' (first|exact HpSub.refl _))⟩
 rintro ⟨⟩ -
 try dsimp only
 refine t_cut (ι:=Nat×Nat×Int) (fun z=>[(0,.slice (some ⟨g,0,none⟩) n cp),(1,.int .i64 ((z.1:Nat):Int)),(2,.int .i64 ((z.2.1:Nat):Int)),(3,.int .i64 ((k:Nat):Int)),(4,.pointer (some ⟨bs,0,none⟩)),(5,.func (.func kf) #[] #[])]) (fun z=>[(g,coB fx fy (Z),some (111,2,cp)),(bs,[.int .i64 z.2.2],some (3,1,1))]) (fun z=>(z.1=i∨z.1=j)∧(z.2.1=i∨z.2.1=j)∧s≤z.2.2∧z.2.2≤s+1) ?_ ?_
 · repeat' (first|((with_reducible apply oq_id);first|(apply oq_fn;exact rfl;first|exact trivial|(and_intros<;>omega)|omega|skip))|((with_reducible apply tl_id);first|(with_reducible apply tl_nil)|((with_reducible apply u_s);(iterate 3 exact rfl);(with_reducible apply os_callM (PV:=fun v H1=>(∃ (i' j':Nat) (s':Int),((i'=i∧j'=j)∨(i'=j∧j'=i))∧s≤s'∧s'≤s+1∧v=.tuple #[.int .i64 ((i':Nat):Int),.int .i64 ((j':Nat):Int)]∧H1=[(g,coB fx fy (Z),some (111,2,cp)),(bs,[.int .i64 s'],some (3,1,1))])) (G:=[(g,coB fx fy (Z),some (111,2,cp)),(bs,[.int .i64 s],some (3,1,1))]) (R:=[]) (hc:=Try.call219));exact rfl;exact rfl;(repeat (first|exact HpSub.refl _|(apply HpSub.consE;(repeat first|exact P0|apply P1);exact rfl)|apply HpSub.skipX|apply HpSub.skipX|exact HpSub.nil));exact fun D w1 hw1 hg1=>order2_M hw HK g cp n i j bs s Z w1 hg1 hn hn1 (by omega) (by omega) (by omega);rintro _ _ ⟨i1,j1,s1,h1,h2,h3,rfl,rfl⟩;(try simp only [List.cons_append,List.nil_append,List.append_nil]))|((with_reducible apply u_q);(iterate 4 exact rfl)))|((with_reducible apply t_id);first|(apply t_region;kernel_rfl)))
   all_goals exact ⟨by trivial,(i1,j1,s1),(by simp only;omega),by (repeat' (first|exact FrSub.nil|(apply FrSub.cons;exact rfl))),by (repeat' (first|exact HpSub.refl _))⟩
 rintro ⟨i1,j1,s1⟩ ⟨h1,h2,h3,h4⟩
 simp only at h1 h2 h3 h4
 try dsimp only
 have hi1:i1<n:=by omega
 have hj1:j1<n:=by omega
 refine t_cut (ι:=Nat×Nat×Int) (fun z=>[(0,.slice (some ⟨g,0,none⟩) n cp),(1,.int .i64 ((i1:Nat):Int)),(2,.int .i64 ((z.1:Nat):Int)),(3,.int .i64 ((z.2.1:Nat):Int)),(4,.pointer (some ⟨bs,0,none⟩)),(5,.func (.func kf) #[] #[])]) (fun z=>[(g,coB fx fy (Z),some (111,2,cp)),(bs,[.int .i64 z.2.2],some (3,1,1))]) (fun z=>(z.1=j1∨z.1=k)∧(z.2.1=j1∨z.2.1=k)∧s1≤z.2.2∧z.2.2≤s1+1) ?_ ?_
 · repeat' (first|((with_reducible apply oq_id);first|(apply oq_fn;exact rfl;first|exact trivial|(and_intros<;>omega)|omega|skip))|((with_reducible apply tl_id);first|(with_reducible apply tl_nil)|((with_reducible apply u_s);(iterate 3 exact rfl);(with_reducible apply os_callM (PV:=fun v H1=>(∃ (i' j':Nat) (s':Int),((i'=j1∧j'=k)∨(i'=k∧j'=j1))∧s1≤s'∧s'≤s1+1∧v=.tuple #[.int .i64 ((i':Nat):Int),.int .i64 ((j':Nat):Int)]∧H1=[(g,coB fx fy (Z),some (111,2,cp)),(bs,[.int .i64 s'],some (3,1,1))])) (G:=[(g,coB fx fy (Z),some (111,2,cp)),(bs,[.int .i64 s1],some (3,1,1))]) (R:=[]) (hc:=Try.call219));exact rfl;exact rfl;(repeat (first|exact HpSub.refl _|(apply HpSub.consE;(repeat first|exact P0|apply P1);exact rfl)|apply HpSub.skipX|apply HpSub.skipX|exact HpSub.nil));exact fun D w1 hw1 hg1=>order2_M hw HK g cp n j1 k bs s1 Z w1 hg1 hn hn1 (by omega) (by omega) (by omega);rintro _ _ ⟨i2,j2,s2,g1,g2,g3,rfl,rfl⟩;(try simp only [List.cons_append,List.nil_append,List.append_nil]))|((with_reducible apply u_q);(iterate 4 exact rfl)))|((with_reducible apply t_id);first|(apply t_region;kernel_rfl)))
   all_goals exact ⟨by trivial,(i2,j2,s2),(by simp only;omega),by (repeat' (first|exact FrSub.nil|(apply FrSub.cons;exact rfl))),by (repeat' (first|exact HpSub.refl _))⟩
 rintro ⟨j2,k2,s2⟩ ⟨g1,g2,g3,g4⟩
 simp only at g1 g2 g3 g4
 try dsimp only
 have hj2:j2<n:=by omega
 refine t_cut (ι:=Nat×Nat×Int) (fun z=>[(0,.slice (some ⟨g,0,none⟩) n cp),(1,.int .i64 ((z.1:Nat):Int)),(2,.int .i64 ((z.2.1:Nat):Int)),(3,.int .i64 ((k2:Nat):Int)),(4,.pointer (some ⟨bs,0,none⟩)),(5,.func (.func kf) #[] #[])]) (fun z=>[(g,coB fx fy (Z),some (111,2,cp)),(bs,[.int .i64 z.2.2],some (3,1,1))]) (fun z=>(z.2.1=i1∨z.2.1=j2)∧s2≤z.2.2∧z.2.2≤s2+1) ?_ ?_
 · repeat' (first|((with_reducible apply oq_id);first|(apply oq_fn;exact rfl;first|exact trivial|(and_intros<;>omega)|omega|skip))|((with_reducible apply tl_id);first|(with_reducible apply tl_nil)|((with_reducible apply u_s);(iterate 3 exact rfl);(with_reducible apply os_callM (PV:=fun v H1=>(∃ (i' j':Nat) (s':Int),((i'=i1∧j'=j2)∨(i'=j2∧j'=i1))∧s2≤s'∧s'≤s2+1∧v=.tuple #[.int .i64 ((i':Nat):Int),.int .i64 ((j':Nat):Int)]∧H1=[(g,coB fx fy (Z),some (111,2,cp)),(bs,[.int .i64 s'],some (3,1,1))])) (G:=[(g,coB fx fy (Z),some (111,2,cp)),(bs,[.int .i64 s2],some (3,1,1))]) (R:=[]) (hc:=Try.call219));exact rfl;exact rfl;(repeat (first|exact HpSub.refl _|(apply HpSub.consE;(repeat first|exact P0|apply P1);exact rfl)|apply HpSub.skipX|apply HpSub.skipX|exact HpSub.nil));exact fun D w1 hw1 hg1=>order2_M hw HK g cp n i1 j2 bs s2 Z w1 hg1 hn hn1 (by omega) (by omega) (by omega);rintro _ _ ⟨i3,j3,s3,f1,f2,f3,rfl,rfl⟩;(try simp only [List.cons_append,List.nil_append,List.append_nil]))|((with_reducible apply u_q);(iterate 4 exact rfl)))|((with_reducible apply t_id);first|(apply t_region;kernel_rfl)))
   all_goals exact ⟨by trivial,(i3,j3,s3),(by simp only;omega),by (repeat' (first|exact FrSub.nil|(apply FrSub.cons;exact rfl))),by (repeat' (first|exact HpSub.refl _))⟩
 rintro ⟨i3,j3,s3⟩ ⟨f1,f2,f3⟩
 simp only at f1 f2 f3
 try dsimp only
 repeat' (first|((with_reducible apply oq_id);first|(apply oq_fn;exact rfl;first|exact trivial|(and_intros<;>omega)|omega|skip))|((with_reducible apply tl_id);first|(with_reducible apply tl_nil)|((with_reducible apply u_q);(iterate 4 exact rfl)))|((with_reducible apply t_id);first|(with_reducible apply t_seq)|(apply t_region;kernel_rfl)|(with_reducible apply t_ret))|with_reducible apply q_thenN|(with_reducible apply end_ret)|exact rvs_nil|(with_reducible apply rvs_cons)|((with_reducible apply rv_tmp);exact rfl))
 all_goals exact ⟨_,⟨j3,s3,by omega,by omega,by omega,rfl,rfl⟩,HpSub.w (by (repeat (first|exact HpSub.refl _|(apply HpSub.consE;(repeat first|exact P0|apply P1);exact rfl)|apply HpSub.skipX|exact HpSub.nil)))⟩
theorem pivot_M {α:Type} {fx fy:α→Int} {lt:α→α→Bool} {kf:Nat} (hw:Wo lt) (HK:CmpOk fx fy lt kf) (g cp n a b:Nat) (Z:List α) (w:World) (hH:Has w ⟨[g],[]⟩ [(g,coB fx fy (Z),some (111,2,cp))] w) (hn:Z.length=n) (hn1:n≤1000000) (hb:b≤n) (h8:a+8≤b) (h50:b<a+50) :
   Calls Try.prog 199 #[.slice (some ⟨g,0,none⟩) n cp,.int .i64 ((a:Nat):Int),.int .i64 ((b:Nat):Int),.func (.func kf) #[] #[]] w fun e w'=>∃ v H1,e=.returned v∧(∃ (r:Nat) (h:Int),a≤r∧r<b∧(h=0∨h=1∨h=2)∧v=.tuple #[.int .i64 ((r:Nat):Int),.int .i64 h]∧H1=[(g,coB fx fy (Z),some (111,2,cp))])∧Has w ⟨[g],[]⟩ H1 w':=by
 obtain ⟨q4,hq4⟩:∃ q,(b-a) / 4=q:=⟨_,rfl⟩
 have hq5:((b-a:Nat):Int).tdiv 4=((q4:Nat):Int):=by rw [← hq4];rfl
 refine enterM (c:=cxM [g] w 63) Try.func199 rfl rfl rfl hH ?_
 refine t_cut (ι:=Unit) (fun _=>[(0,.slice (some ⟨g,0,none⟩) n cp),(1,.int .i64 ((a:Nat):Int)),(2,.int .i64 ((b:Nat):Int)),(3,.func (.func kf) #[] #[])]) (fun _=>[(g,coB fx fy (Z),some (111,2,cp))]) (fun _=>True) ?_ ?_
 · repeat' (first|((with_reducible apply oq_id);first|(apply oq_fn;exact rfl;first|exact trivial|(and_intros<;>omega)|omega|skip))|((with_reducible apply tl_id);first|(with_reducible apply tl_nil)|((with_reducible apply u_q);(iterate 4 exact rfl)))|((with_reducible apply t_id);first|(apply t_region;kernel_rfl)))
   all_goals exact ⟨by trivial,(),trivial,by (repeat' (first|exact FrSub.nil|(apply FrSub.cons;exact rfl))),by (repeat' (first|exact HpSub.refl _))⟩
 rintro ⟨⟩ -
 refine t_cut (ι:=Unit) (fun _=>[(0,.slice (some ⟨g,0,none⟩) n cp),(1,.int .i64 ((a:Nat):Int)),(2,.int .i64 ((b:Nat):Int)),(3,.func (.func kf) #[] #[]),(10,.int .i64 (((b-a):Nat):Int))]) (fun _=>[(g,coB fx fy (Z),some (111,2,cp))]) (fun _=>True) ?_ ?_
 · repeat' (first|((with_reducible apply oq_id);first|(focus ((with_reducible apply (oq_subE (k:=((b-a:Nat):Int))));exact rfl;exact rfl;omega))|(apply oq_fn;exact rfl;first|exact trivial|(and_intros<;>omega)|omega|skip))|((with_reducible apply tl_id);first|(with_reducible apply tl_nil)|((with_reducible apply u_q);(iterate 4 exact rfl)))|((with_reducible apply t_id);first|(apply t_region;kernel_rfl)))
   all_goals exact ⟨by trivial,(),trivial,by (repeat' (first|exact FrSub.nil|(apply FrSub.cons;exact rfl))),by (repeat' (first|exact HpSub.refl _))⟩
 rintro ⟨⟩ -
 refine t_cut (ι:=Nat) (fun bs=>[(0,.slice (some ⟨g,0,none⟩) n cp),(1,.int .i64 ((a:Nat):Int)),(2,.int .i64 ((b:Nat):Int)),(3,.func (.func kf) #[] #[]),(10,.int .i64 (((b-a):Nat):Int)),(11,.pointer (some ⟨bs,0,none⟩))]) (fun bs=>[(g,coB fx fy (Z),some (111,2,cp)),(bs,[.int .i64 0],some (3,1,1))]) (fun _=>True) ?_ ?_
 · repeat' (first|((with_reducible apply tl_id);first|(with_reducible apply tl_nil)|((with_reducible apply u_s);(iterate 3 exact rfl)))|((with_reducible apply os_id);first|((with_reducible apply os_x);exact rfl))|((with_reducible apply ox_id);first|((with_reducible apply ox_alloc);exact rfl;intro _))|((with_reducible apply t_id);first|(apply t_region;kernel_rfl)))
   all_goals exact ⟨by trivial,_,trivial,by (repeat' (first|exact FrSub.nil|(apply FrSub.cons;exact rfl))),by (repeat' (first|exact HpSub.refl _|(apply HpSub.consE;(repeat first|exact P0|apply P1);first|exact rfl|(simp;done))))⟩
 rintro bs -
 try dsimp only
 refine t_cut (ι:=Unit) (fun _=>[(0,.slice (some ⟨g,0,none⟩) n cp),(1,.int .i64 ((a:Nat):Int)),(2,.int .i64 ((b:Nat):Int)),(3,.func (.func kf) #[] #[]),(10,.int .i64 (((b-a):Nat):Int)),(11,.pointer (some ⟨bs,0,none⟩)),(12,.int .i64 (((a+q4*1):Nat):Int))]) (fun _=>[(g,coB fx fy (Z),some (111,2,cp)),(bs,[.int .i64 0],some (3,1,1))]) (fun _=>True) ?_ ?_
 · repeat' (first|((with_reducible apply oq_id);first|(focus ((with_reducible apply (oq_quoL (k:=((q4:Nat):Int))));exact rfl;exact rfl;exact ⟨hq5,by decide,by omega,by omega⟩))|(focus ((with_reducible apply (oq_mulE (k:=((q4*1:Nat):Int))));exact rfl;exact rfl;omega))|(focus ((with_reducible apply (oq_addE (k:=((a+q4*1:Nat):Int))));exact rfl;exact rfl;omega))|(apply oq_fn;exact rfl;first|exact trivial|(and_intros<;>omega)|omega|skip))|((with_reducible apply tl_id);first|(with_reducible apply tl_nil)|((with_reducible apply u_q);(iterate 4 exact rfl)))|((with_reducible apply t_id);first|(apply t_region;kernel_rfl))|omega)
   all_goals exact ⟨by trivial,(),trivial,by (repeat' (first|exact FrSub.nil|(apply FrSub.cons;exact rfl))),by (repeat' (first|exact HpSub.refl _))⟩
 rintro ⟨⟩ -
 try dsimp only
 refine t_cut (ι:=Unit) (fun _=>[(0,.slice (some ⟨g,0,none⟩) n cp),(1,.int .i64 ((a:Nat):Int)),(2,.int .i64 ((b:Nat):Int)),(3,.func (.func kf) #[] #[]),(10,.int .i64 (((b-a):Nat):Int)),(11,.pointer (some ⟨bs,0,none⟩)),(12,.int .i64 (((a+q4*1):Nat):Int)),(13,.int .i64 (((a+q4*2):Nat):Int))]) (fun _=>[(g,coB fx fy (Z),some (111,2,cp)),(bs,[.int .i64 0],some (3,1,1))]) (fun _=>True) ?_ ?_
 · repeat' (first|((with_reducible apply oq_id);first|(focus ((with_reducible apply (oq_quoL (k:=((q4:Nat):Int))));exact rfl;exact rfl;exact ⟨hq5,by decide,by omega,by omega⟩))|(focus ((with_reducible apply (oq_mulE (k:=((q4*2:Nat):Int))));exact rfl;exact rfl;omega))|(focus ((with_reducible apply (oq_addE (k:=((a+q4*2:Nat):Int))));exact rfl;exact rfl;omega))|(apply oq_fn;exact rfl;first|exact trivial|(and_intros<;>omega)|omega|skip))|((with_reducible apply tl_id);first|(with_reducible apply tl_nil)|((with_reducible apply u_q);(iterate 4 exact rfl)))|((with_reducible apply t_id);first|(apply t_region;kernel_rfl))|omega)
   all_goals exact ⟨by trivial,(),trivial,by (repeat' (first|exact FrSub.nil|(apply FrSub.cons;exact rfl))),by (repeat' (first|exact HpSub.refl _))⟩
 rintro ⟨⟩ -
 try dsimp only
 refine t_cut (ι:=Unit) (fun _=>[(0,.slice (some ⟨g,0,none⟩) n cp),(1,.int .i64 ((a:Nat):Int)),(2,.int .i64 ((b:Nat):Int)),(3,.func (.func kf) #[] #[]),(10,.int .i64 (((b-a):Nat):Int)),(11,.pointer (some ⟨bs,0,none⟩)),(12,.int .i64 (((a+q4*1):Nat):Int)),(13,.int .i64 (((a+q4*2):Nat):Int)),(14,.int .i64 (((a+q4*3):Nat):Int))]) (fun _=>[(g,coB fx fy (Z),some (111,2,cp)),(bs,[.int .i64 0],some (3,1,1))]) (fun _=>True) ?_ ?_
 · repeat' (first|((with_reducible apply oq_id);first|(focus ((with_reducible apply (oq_quoL (k:=((q4:Nat):Int))));exact rfl;exact rfl;exact ⟨hq5,by decide,by omega,by omega⟩))|(focus ((with_reducible apply (oq_mulE (k:=((q4*3:Nat):Int))));exact rfl;exact rfl;omega))|(focus ((with_reducible apply (oq_addE (k:=((a+q4*3:Nat):Int))));exact rfl;exact rfl;omega))|(apply oq_fn;exact rfl;first|exact trivial|(and_intros<;>omega)|omega|skip))|((with_reducible apply tl_id);first|(with_reducible apply tl_nil)|((with_reducible apply u_q);(iterate 4 exact rfl)))|((with_reducible apply t_id);first|(apply t_region;kernel_rfl))|omega)
   all_goals exact ⟨by trivial,(),trivial,by (repeat' (first|exact FrSub.nil|(apply FrSub.cons;exact rfl))),by (repeat' (first|exact HpSub.refl _))⟩
 rintro ⟨⟩ -
 try dsimp only
 refine t_cut (ι:=Nat×Int) (fun z=>[(0,.slice (some ⟨g,0,none⟩) n cp),(1,.int .i64 ((a:Nat):Int)),(2,.int .i64 ((b:Nat):Int)),(3,.func (.func kf) #[] #[]),(11,.pointer (some ⟨bs,0,none⟩)),(13,.int .i64 ((z.1:Nat):Int))]) (fun z=>[(g,coB fx fy (Z),some (111,2,cp)),(bs,[.int .i64 z.2],some (3,1,1))]) (fun z=>a≤z.1∧z.1<b∧0≤z.2∧z.2≤3) ?_ ?_
 · repeat' (first|((with_reducible apply oq_id);first|((with_reducible apply oq_geqT);exact rfl;exact rfl;omega)|((with_reducible apply oq_geqF);exact rfl;exact rfl;omega)|(apply oq_fn;exact rfl;first|exact trivial|(and_intros<;>omega)|omega|skip))|((with_reducible apply tl_id);first|(with_reducible apply tl_nil)|((with_reducible apply u_s);(iterate 3 exact rfl);(with_reducible apply os_callM (PV:=fun v H1=>(∃ (r:Nat) (s':Int),(r=a+q4*1∨r=a+q4*2∨r=a+q4*3)∧0≤s'∧s'≤0+3∧v=.int .i64 ((r:Nat):Int)∧H1=[(g,coB fx fy (Z),some (111,2,cp)),(bs,[.int .i64 s'],some (3,1,1))])) (G:=[(g,coB fx fy (Z),some (111,2,cp)),(bs,[.int .i64 0],some (3,1,1))]) (R:=[]) (hc:=Try.call214));exact rfl;exact rfl;(repeat (first|exact HpSub.refl _|(apply HpSub.consE;(repeat first|exact P0|apply P1);exact rfl)|apply HpSub.skipX|apply HpSub.skipX|exact HpSub.nil));exact fun D w1 hw1 hg1=>median_M hw HK g cp n (a+q4*1) (a+q4*2) (a+q4*3) bs 0 Z w1 hg1 hn hn1 (by omega) (by omega) (by omega) (by omega);rintro _ _ ⟨r,s1,h1,h2,h3,rfl,rfl⟩;(try simp only [List.cons_append,List.nil_append,List.append_nil]))|((with_reducible apply u_q);(iterate 4 exact rfl)))|((with_reducible apply t_id);first|(with_reducible apply t_seq)|(apply t_region;kernel_rfl)|((with_reducible apply t_condT);exact rfl)|((with_reducible apply t_condF);exact rfl)|(with_reducible apply t_skip))|with_reducible apply q_thenN)
   all_goals exact ⟨by trivial,(r,s1),(by simp only;omega),by (repeat' (first|exact FrSub.nil|(apply FrSub.cons;exact rfl))),by (repeat' (first|exact HpSub.refl _))⟩
 rintro ⟨r,s1⟩ ⟨h1,h2,h3,h4⟩
 simp only at h1 h2 h3 h4
 try dsimp only
 by_cases hs0:s1=0
 · repeat' (first|((with_reducible apply oq_id);first|((with_reducible apply oq_eqlT);exact rfl;exact rfl;omega)|(apply oq_fn;exact rfl;first|exact trivial|(and_intros<;>omega)|omega|skip)|((with_reducible apply oq_load);exact rfl;exact rfl))|((with_reducible apply tl_id);first|(with_reducible apply tl_nil)|((with_reducible apply u_q);(iterate 4 exact rfl)))|((with_reducible apply rd_id);first|(apply Rd.own;(repeat first|exact P0|apply P1);exact rfl;done))|((with_reducible apply t_id);first|(with_reducible apply t_seq)|(apply t_region;kernel_rfl)|((with_reducible apply t_condT);exact rfl)|(with_reducible apply t_ret)|(with_reducible apply t_block))|with_reducible apply q_thenN|with_reducible apply q_blockR|(with_reducible apply end_ret)|exact rvs_nil|(with_reducible apply rvs_cons)|((with_reducible apply rv_tmp);exact rfl))
   all_goals exact ⟨_,⟨r,1,h1,h2,.inr (.inl rfl),rfl,rfl⟩,HpSub.w (by (repeat (first|exact HpSub.refl _|(apply HpSub.consE;(repeat first|exact P0|apply P1);exact rfl)|apply HpSub.skipX|exact HpSub.nil)))⟩
 · repeat' (first|((with_reducible apply oq_id);first|((with_reducible apply oq_eqlF);exact rfl;exact rfl;omega)|(apply oq_fn;exact rfl;first|exact trivial|(and_intros<;>omega)|omega|skip)|((with_reducible apply oq_load);exact rfl;exact rfl))|((with_reducible apply tl_id);first|(with_reducible apply tl_nil)|((with_reducible apply u_q);(iterate 4 exact rfl)))|((with_reducible apply rd_id);first|(apply Rd.own;(repeat first|exact P0|apply P1);exact rfl;done))|((with_reducible apply t_id);first|(with_reducible apply t_seq)|(apply t_region;kernel_rfl)|((with_reducible apply t_condF);exact rfl)|(with_reducible apply t_ret)|(with_reducible apply t_block))|with_reducible apply q_thenN|with_reducible apply q_blockR|(with_reducible apply end_ret)|exact rvs_nil|(with_reducible apply rvs_cons)|((with_reducible apply rv_tmp);exact rfl))
   all_goals exact ⟨_,⟨r,0,h1,h2,.inl rfl,rfl,rfl⟩,HpSub.w (by (repeat (first|exact HpSub.refl _|(apply HpSub.consE;(repeat first|exact P0|apply P1);exact rfl)|apply HpSub.skipX|exact HpSub.nil)))⟩
theorem partEq_M {α:Type} {fx fy:α→Int} {lt:α→α→Bool} {kf:Nat} (hw:Wo lt) (HK:CmpOk fx fy lt kf) (g cp n a b pv:Nat) (Z:List α) (p:α) (w:World) (hH:Has w ⟨[g],[]⟩ [(g,coB fx fy (Z),some (111,2,cp))] w) (hn:Z.length=n) (hn1:n≤1000000) (hab:a<b) (hb:b≤n) (hpv:a≤pv∧pv<b) (hp:Z[pv]?=some p) :
   Calls Try.prog 202 #[.slice (some ⟨g,0,none⟩) n cp,.int .i64 ((a:Nat):Int),.int .i64 ((b:Nat):Int),.int .i64 ((pv:Nat):Int),.func (.func kf) #[] #[]] w fun e w'=>∃ v H1,e=.returned v∧(∃ (i j:Nat) (W:List α),v=.int .i64 ((i:Nat):Int)∧j<i∧QI lt p a i j b W∧Sg a b Z W∧H1=[(g,coB fx fy (W),some (111,2,cp))])∧Has w ⟨[g],[]⟩ H1 w':=by
 obtain ⟨z,hz⟩:∃ x,Z[a]?=some x:=⟨_,List.getElem?_eq_getElem (by omega)⟩
 have hz2:=swp_get hz hp
 obtain ⟨q0,q1⟩:=co_at (fx:=fx) (fy:=fy) hz
 obtain ⟨r0,r1⟩:=co_at (fx:=fx) (fy:=fy) hp
 have hs0:Sg a b Z ((Z.set a p).set pv z):=(Sg.refl (by omega) (by omega)).swap hz hp (by omega) (by omega)
 obtain ⟨Y0,hY0⟩:∃ Y,(Z.set a p).set pv z=Y:=⟨_,rfl⟩
 have hd0:Y0[a]?=some p:=by
   rw [← hY0]
   by_cases e:a=pv
   · subst e
     rw [hz] at hp
     obtain rfl:=Option.some.inj hp
     rw [List.set_set,List.getElem?_set_self (List.getElem?_eq_some_iff.1 hz).1]
   · rw [List.getElem?_set_ne (Ne.symm e),List.getElem?_set_self (List.getElem?_eq_some_iff.1 hz).1]
 rw [hY0] at hs0
 refine enterM (c:=cxM [g] w 90) Try.func202 rfl rfl rfl hH ?_
 refine t_cut (ι:=Unit) (fun _=>[(0,.slice (some ⟨g,0,none⟩) n cp),(1,.int .i64 ((a:Nat):Int)),(2,.int .i64 ((b:Nat):Int)),(3,.int .i64 ((pv:Nat):Int)),(4,.func (.func kf) #[] #[])]) (fun _=>[(g,coB fx fy (Z),some (111,2,cp))]) (fun _=>True) ?_ ?_
 · repeat' (first|((with_reducible apply oq_id);first|(apply oq_fn;exact rfl;first|exact trivial|(and_intros<;>omega)|omega|skip))|((with_reducible apply tl_id);first|(with_reducible apply tl_nil)|((with_reducible apply u_q);(iterate 4 exact rfl)))|((with_reducible apply t_id);first|(apply t_region;kernel_rfl)))
   all_goals exact ⟨by trivial,(),trivial,by (repeat' (first|exact FrSub.nil|(apply FrSub.cons;exact rfl))),by (repeat' (first|exact HpSub.refl _))⟩
 rintro ⟨⟩ -
 try dsimp only
 refine t_cut (ι:=Unit) (fun _=>[(0,.slice (some ⟨g,0,none⟩) n cp),(1,.int .i64 ((a:Nat):Int)),(2,.int .i64 ((b:Nat):Int)),(3,.int .i64 ((pv:Nat):Int)),(4,.func (.func kf) #[] #[])]) (fun _=>[(g,coB fx fy (Y0),some (111,2,cp))]) (fun _=>True) ?_ ?_
 · repeat' (first|((with_reducible apply oq_id);first|(focus ((with_reducible apply oq_indexAddrN);(iterate 4 exact rfl);omega))|(apply oq_fn;exact rfl;first|exact trivial|(and_intros<;>omega)|omega|skip)|((with_reducible apply oq_loadAgg);exact rfl;exact rfl))|((with_reducible apply gx_id);first|(with_reducible apply v_nil)|((with_reducible apply v_q);(iterate 3 exact rfl)))|((with_reducible apply os_id);first|((with_reducible apply (os_storeCo (fx:=fx) (fy:=fy) p hz rfl));(iterate 3 exact rfl);(repeat first|exact P0|apply P1))|((with_reducible apply (os_storeCo (fx:=fx) (fy:=fy) z hz2 hY0));(iterate 3 exact rfl);(repeat first|exact P0|apply P1)))|((with_reducible apply ai_id);first|((with_reducible apply ai_q);(iterate 5 exact rfl))|((with_reducible apply ai_n0);(iterate 3 exact rfl)))|((with_reducible apply al_keep);focus (repeat (first|exact HpSub.refl _|(apply HpSub.cons;(repeat first|exact P0|apply P1))|apply HpSub.skipX|exact HpSub.nil)))|((with_reducible apply rd_id);first|(apply Rd.own;(repeat first|exact P0|apply P1);with_reducible (first|exact q0|exact q1|exact r0|exact r1|exact s0|exact s1);done))|((with_reducible apply t_id);first|(apply t_mixZ (id:=1) [0,1,2,3,4,5,6,8,9,10] 6;kernel_rfl;kernel_rfl;exact rfl))|exact Rdn.zero|apply Rdn.succ|((with_reducible apply al_id);first|(apply al_done;decide +kernel)|(apply al_one 7;decide +kernel)|(apply al_one 11;decide +kernel)|(apply al_one 12;decide +kernel)|(apply al_one 13;decide +kernel)|(apply al_one 14;decide +kernel)|(apply al_one 15;decide +kernel)|(apply al_two 7 11;decide +kernel)))
   all_goals exact ⟨by trivial,(),trivial,by (repeat' (first|exact FrSub.nil|(apply FrSub.cons;exact rfl))),by (repeat' (first|exact HpSub.refl _))⟩
 rintro ⟨⟩ -
 try dsimp only
 clear q0 q1 r0 r1
 refine t_cut (ι:=Unit) (fun _=>[(0,.slice (some ⟨g,0,none⟩) n cp),(1,.int .i64 ((a:Nat):Int)),(2,.int .i64 ((b:Nat):Int)),(4,.func (.func kf) #[] #[]),(11,.int .i64 (((a+1):Nat):Int)),(12,.int .i64 (((b-1):Nat):Int))]) (fun _=>[(g,coB fx fy (Y0),some (111,2,cp))]) (fun _=>True) ?_ ?_
 · repeat' (first|((with_reducible apply oq_id);first|(focus ((with_reducible apply (oq_addE (k:=((a+1:Nat):Int))));exact rfl;exact rfl;omega))|(focus ((with_reducible apply (oq_subE (k:=((b-1:Nat):Int))));exact rfl;exact rfl;omega))|(apply oq_fn;exact rfl;first|exact trivial|(and_intros<;>omega)|omega|skip))|((with_reducible apply tl_id);first|(with_reducible apply tl_nil)|((with_reducible apply u_q);(iterate 4 exact rfl)))|((with_reducible apply t_id);first|(apply t_region;kernel_rfl)))
   all_goals exact ⟨by trivial,(),trivial,by (repeat' (first|exact FrSub.nil|(apply FrSub.cons;exact rfl))),by (repeat' (first|exact HpSub.refl _))⟩
 rintro ⟨⟩ -
 try dsimp only
 have hq0:QI lt p a (a+1) (b-1) b Y0:=⟨hd0,fun k x h1 h2=>absurd h2 (by omega),fun k x h1 h2=>absurd h2 (by omega),Nat.le_refl _,by omega,by omega⟩
 refine t_cut (ι:=Nat×Nat×List α) (fun z=>[(0,.slice (some ⟨g,0,none⟩) n cp),(1,.int .i64 ((a:Nat):Int)),(2,.int .i64 ((b:Nat):Int)),(4,.func (.func kf) #[] #[]),(11,.int .i64 ((z.1:Nat):Int)),(12,.int .i64 ((z.2.1:Nat):Int))]) (fun z=>[(g,coB fx fy (z.2.2),some (111,2,cp))]) (fun z=>z.2.1<z.1∧QI lt p a z.1 z.2.1 b z.2.2∧Sg a b Z z.2.2) ?_ ?_
 rotate_left
 · rintro ⟨i,j,Y⟩ ⟨h1,h2,h3⟩
   simp only at h1 h2 h3
   try dsimp only
   repeat' (first|((with_reducible apply oq_id);first|(apply oq_fn;exact rfl;first|exact trivial|(and_intros<;>omega)|omega|skip))|((with_reducible apply tl_id);first|(with_reducible apply tl_nil)|((with_reducible apply u_q);(iterate 4 exact rfl)))|((with_reducible apply t_id);first|(with_reducible apply t_seq)|(apply t_region;kernel_rfl)|(with_reducible apply t_ret))|with_reducible apply q_thenN|(with_reducible apply end_ret)|exact rvs_nil|(with_reducible apply rvs_cons)|((with_reducible apply rv_tmp);exact rfl))
   all_goals exact ⟨_,⟨i,j,Y,rfl,h1,h2,h3,rfl⟩,HpSub.w (by (repeat (first|exact HpSub.refl _|(apply HpSub.consE;(repeat first|exact P0|apply P1);exact rfl)|apply HpSub.skipX|exact HpSub.nil)))⟩
 repeat' (first|((with_reducible apply t_id);first|(with_reducible apply t_block)))
 apply t_loopP (ι:=Nat×Nat×List α) [0,1,2,4] (fun z=>[(11,.int .i64 ((z.1:Nat):Int)),(12,.int .i64 ((z.2.1:Nat):Int))]) (fun z=>[(g,coB fx fy (z.2.2),some (111,2,cp))]) (fun z=>QI lt p a z.1 z.2.1 b z.2.2∧Sg a b Z z.2.2) (fun z=>z.2.1+1-z.1) (a+1,b-1,Y0)
 (repeat (first|exact KeepF.nil|(apply KeepF.cons;exact rfl)|apply KeepF.skip))
 (repeat first|exact FrSub.nil|(apply FrSub.cons;exact rfl))
 (try simp only [List.cons_append,List.nil_append])
 (repeat' (first|exact HpSub.refl _))
 · exact ⟨hq0,hs0⟩
 rintro ⟨i,j,Y⟩ ⟨hq,hs⟩
 simp only at hq hs
 try simp only [List.cons_append,List.nil_append]
 clear hq0 hs0 hd0 hY0 hz2
 have hYl:=hs.len
 with_reducible apply t_block
 refine t_cut (ι:=Nat) (fun i'=>[(0,.slice (some ⟨g,0,none⟩) n cp),(1,.int .i64 ((a:Nat):Int)),(2,.int .i64 ((b:Nat):Int)),(4,.func (.func kf) #[] #[]),(11,.int .i64 ((i':Nat):Int)),(12,.int .i64 ((j:Nat):Int))]) (fun _=>[(g,coB fx fy (Y),some (111,2,cp))]) (fun i'=>i≤i'∧QI lt p a i' j b Y∧(i'≤j→∃ x,Y[i']?=some x∧lt p x=true)) ?_ ?_
 · repeat' (first|((with_reducible apply t_id);first|(with_reducible apply t_block)))
   apply t_loopP (ι:=Nat) [0,1,2,4,12] (fun i'=>[(11,.int .i64 ((i':Nat):Int))]) (fun _=>[(g,coB fx fy (Y),some (111,2,cp))]) (fun i'=>i≤i'∧QI lt p a i' j b Y) (fun i'=>j+1-i') (i)
   (repeat (first|exact KeepF.nil|(apply KeepF.cons;exact rfl)|apply KeepF.skip))
   (repeat first|exact FrSub.nil|(apply FrSub.cons;exact rfl))
   (try simp only [List.cons_append,List.nil_append])
   (repeat' (first|exact HpSub.refl _))
   · exact ⟨Nat.le_refl _,hq⟩
   rintro i' ⟨hv,hq⟩
   try simp only [List.cons_append,List.nil_append]
   have i1:=hq.i1
   have ij:=hq.ij
   have jb:=hq.jb
   by_cases hle:i'≤j
   rotate_left
   · repeat' (first|((with_reducible apply oq_id);first|((with_reducible apply oq_leqF);exact rfl;exact rfl;omega)|(apply oq_fn;exact rfl;first|exact trivial|(and_intros<;>omega)|omega|skip))|((with_reducible apply gx_id);first|(with_reducible apply v_nil)|((with_reducible apply v_q);(iterate 3 exact rfl))|((with_reducible apply v_skip);(iterate 3 exact rfl)))|((with_reducible apply t_id);first|(apply t_mix (id:=3) [0,1,2,3,4,5,6,7,8,9,10,11,12,13,14,15,16] 0 #[false,false,false,false,false,false,false,false,false,false,false,false,false,false,false,false,false];kernel_rfl;kernel_rfl;exact rfl)|(with_reducible apply t_seq)|((with_reducible apply t_condF);exact rfl)|(with_reducible apply t_exit))|with_reducible apply q_thenN|with_reducible apply q_thenE|((with_reducible apply q_blockE);exact rfl)|((with_reducible apply al_id);first|(apply al_done;decide +kernel)))
     all_goals exact ⟨by trivial,i',⟨hv,hq,fun h=>absurd h hle⟩,by (repeat' (first|exact FrSub.nil|(apply FrSub.cons;exact rfl))),by (repeat' (first|exact HpSub.refl _))⟩
   obtain ⟨x,hx⟩:∃ x,Y[i']?=some x:=⟨_,List.getElem?_eq_getElem (by omega)⟩
   obtain ⟨q0,q1⟩:=co_at (fx:=fx) (fy:=fy) hx
   obtain ⟨r0,r1⟩:=co_at (fx:=fx) (fy:=fy) hq.hd
   obtain ⟨o,HC,ho⟩:=HK.cmp p x
   by_cases HN:o<0
   · have hl:lt p x=true:=ho.1 HN
     repeat' (first|((with_reducible apply oq_id);first|((with_reducible apply oq_lssT);exact rfl;exact rfl;exact HN)|(focus ((with_reducible apply oq_indexAddrN);(iterate 4 exact rfl);omega))|((with_reducible apply oq_leqT);exact rfl;exact rfl;omega)|(apply oq_fn;exact rfl;first|exact trivial|(and_intros<;>omega)|omega|skip)|((with_reducible apply oq_loadAgg);exact rfl;exact rfl)|((with_reducible apply oq_call (k:=kf) (hc:=HK.call));exact rfl;exact rfl;exact fun D w1 hw1=>HC w1))|((with_reducible apply gx_id);first|(with_reducible apply v_nil)|((with_reducible apply v_q);(iterate 3 exact rfl)))|((with_reducible apply rd_id);first|(apply Rd.own;(repeat first|exact P0|apply P1);with_reducible (first|exact q0|exact q1|exact r0|exact r1|exact s0|exact s1);done))|((with_reducible apply t_id);first|(apply t_mix (id:=3) [0,1,2,3,4,5,6,7,8,9,10,11,12,13,14,15,16] 0 #[false,false,false,false,false,false,false,false,false,false,false,false,false,false,false,false,false];kernel_rfl;kernel_rfl;exact rfl)|(with_reducible apply t_seq)|((with_reducible apply t_condF);exact rfl)|(with_reducible apply t_exit))|with_reducible apply q_thenN|with_reducible apply q_thenE|((with_reducible apply q_blockE);exact rfl)|exact Rdn.zero|apply Rdn.succ|((with_reducible apply al_id);first|(apply al_done;decide +kernel)))
     all_goals exact ⟨by trivial,i',⟨hv,hq,fun _=>⟨x,hx,hl⟩⟩,by (repeat' (first|exact FrSub.nil|(apply FrSub.cons;exact rfl))),by (repeat' (first|exact HpSub.refl _))⟩
   · have hl:lt p x=false:=by
       cases hc:lt p x with
       | false=>rfl
       | true=>exact absurd (ho.2 hc) HN
     repeat' (first|((with_reducible apply oq_id);first|((with_reducible apply oq_lssF);exact rfl;exact rfl;exact HN)|(focus ((with_reducible apply oq_indexAddrN);(iterate 4 exact rfl);omega))|(focus ((with_reducible apply (oq_addE (k:=((i'+1:Nat):Int))));exact rfl;exact rfl;omega))|((with_reducible apply oq_leqT);exact rfl;exact rfl;omega)|(apply oq_fn;exact rfl;first|exact trivial|(and_intros<;>omega)|omega|skip)|((with_reducible apply oq_loadAgg);exact rfl;exact rfl)|((with_reducible apply oq_call (k:=kf) (hc:=HK.call));exact rfl;exact rfl;exact fun D w1 hw1=>HC w1))|((with_reducible apply tl_id);first|(with_reducible apply tl_nil)|((with_reducible apply u_q);(iterate 4 exact rfl)))|((with_reducible apply gx_id);first|(with_reducible apply v_nil)|((with_reducible apply v_q);(iterate 3 exact rfl)))|((with_reducible apply rd_id);first|(apply Rd.own;(repeat first|exact P0|apply P1);with_reducible (first|exact q0|exact q1|exact r0|exact r1|exact s0|exact s1);done))|((with_reducible apply t_id);first|(apply t_mix (id:=3) [0,1,2,3,4,5,6,7,8,9,10,11,12,13,14,15,16] 0 #[false,false,false,false,false,false,false,false,false,false,false,false,false,false,false,false,false];kernel_rfl;kernel_rfl;exact rfl)|(with_reducible apply t_seq)|(apply t_region;kernel_rfl)|((with_reducible apply t_condT);exact rfl)|(with_reducible apply t_skip)|(with_reducible apply t_block))|with_reducible apply q_thenN|with_reducible apply q_blockN|exact Rdn.zero|apply Rdn.succ|((with_reducible apply al_id);first|(apply al_done;decide +kernel)))
     all_goals (refine ⟨i'+1,⟨by omega,hq.inc hle hx hl⟩,by omega,?_,?_⟩<;>(repeat' (first|exact FrSub.nil|(apply FrSub.cons;exact rfl)|exact HpSub.refl _)))
 clear hq
 rintro i' ⟨hi,hq,hfi⟩
 try dsimp only
 refine t_cut (ι:=Nat) (fun j'=>[(0,.slice (some ⟨g,0,none⟩) n cp),(1,.int .i64 ((a:Nat):Int)),(2,.int .i64 ((b:Nat):Int)),(4,.func (.func kf) #[] #[]),(11,.int .i64 ((i':Nat):Int)),(12,.int .i64 ((j':Nat):Int))]) (fun _=>[(g,coB fx fy (Y),some (111,2,cp))]) (fun j'=>j'≤j∧QI lt p a i' j' b Y∧(i'≤j'→∃ x,Y[j']?=some x∧lt p x=false)) ?_ ?_
 · repeat' (first|((with_reducible apply t_id);first|(with_reducible apply t_block)))
   apply t_loopP (ι:=Nat) [0,1,2,4,11] (fun j'=>[(12,.int .i64 ((j':Nat):Int))]) (fun _=>[(g,coB fx fy (Y),some (111,2,cp))]) (fun j'=>j'≤j∧QI lt p a i' j' b Y) (fun j'=>j') (j)
   (repeat (first|exact KeepF.nil|(apply KeepF.cons;exact rfl)|apply KeepF.skip))
   (repeat first|exact FrSub.nil|(apply FrSub.cons;exact rfl))
   (try simp only [List.cons_append,List.nil_append])
   (repeat' (first|exact HpSub.refl _))
   · exact ⟨Nat.le_refl _,hq⟩
   rintro j' ⟨hv,hq⟩
   try simp only [List.cons_append,List.nil_append]
   have i1:=hq.i1
   have ij:=hq.ij
   have jb:=hq.jb
   by_cases hle:i'≤j'
   rotate_left
   · repeat' (first|((with_reducible apply oq_id);first|((with_reducible apply oq_leqF);exact rfl;exact rfl;omega)|(apply oq_fn;exact rfl;first|exact trivial|(and_intros<;>omega)|omega|skip))|((with_reducible apply gx_id);first|(with_reducible apply v_nil)|((with_reducible apply v_q);(iterate 3 exact rfl))|((with_reducible apply v_skip);(iterate 3 exact rfl)))|((with_reducible apply t_id);first|(apply t_mix (id:=5) [0,1,2,3,4,5,6,7,8,9,10,11,12,13,14,15] 0 #[false,false,false,false,false,false,false,false,false,false,false,false,false,false,false,false];kernel_rfl;kernel_rfl;exact rfl)|(with_reducible apply t_seq)|((with_reducible apply t_condF);exact rfl)|(with_reducible apply t_exit))|with_reducible apply q_thenN|with_reducible apply q_thenE|((with_reducible apply q_blockE);exact rfl)|((with_reducible apply al_id);first|(apply al_done;decide +kernel)))
     all_goals exact ⟨by trivial,j',⟨hv,hq,fun h=>absurd h hle⟩,by (repeat' (first|exact FrSub.nil|(apply FrSub.cons;exact rfl))),by (repeat' (first|exact HpSub.refl _))⟩
   obtain ⟨x,hx⟩:∃ x,Y[j']?=some x:=⟨_,List.getElem?_eq_getElem (by omega)⟩
   obtain ⟨q0,q1⟩:=co_at (fx:=fx) (fy:=fy) hx
   obtain ⟨r0,r1⟩:=co_at (fx:=fx) (fy:=fy) hq.hd
   obtain ⟨o,HC,ho⟩:=HK.cmp p x
   by_cases HN:o<0
   · have hl:lt p x=true:=ho.1 HN
     repeat' (first|((with_reducible apply oq_id);first|((with_reducible apply oq_lssT);exact rfl;exact rfl;exact HN)|(focus ((with_reducible apply oq_indexAddrN);(iterate 4 exact rfl);omega))|(focus ((with_reducible apply (oq_subE (k:=((j'-1:Nat):Int))));exact rfl;exact rfl;omega))|((with_reducible apply oq_leqT);exact rfl;exact rfl;omega)|(apply oq_fn;exact rfl;first|exact trivial|(and_intros<;>omega)|omega|skip)|((with_reducible apply oq_loadAgg);exact rfl;exact rfl)|((with_reducible apply oq_call (k:=kf) (hc:=HK.call));exact rfl;exact rfl;exact fun D w1 hw1=>HC w1))|((with_reducible apply tl_id);first|(with_reducible apply tl_nil)|((with_reducible apply u_q);(iterate 4 exact rfl)))|((with_reducible apply gx_id);first|(with_reducible apply v_nil)|((with_reducible apply v_q);(iterate 3 exact rfl)))|((with_reducible apply rd_id);first|(apply Rd.own;(repeat first|exact P0|apply P1);with_reducible (first|exact q0|exact q1|exact r0|exact r1|exact s0|exact s1);done))|((with_reducible apply t_id);first|(apply t_mix (id:=5) [0,1,2,3,4,5,6,7,8,9,10,11,12,13,14,15] 0 #[false,false,false,false,false,false,false,false,false,false,false,false,false,false,false,false];kernel_rfl;kernel_rfl;exact rfl)|(with_reducible apply t_seq)|(apply t_region;kernel_rfl)|((with_reducible apply t_condT);exact rfl)|(with_reducible apply t_skip)|(with_reducible apply t_block))|with_reducible apply q_thenN|with_reducible apply q_blockN|exact Rdn.zero|apply Rdn.succ|((with_reducible apply al_id);first|(apply al_done;decide +kernel)))
     all_goals (refine ⟨j'-1,⟨by omega,hq.dec hle hx hl⟩,by omega,?_,?_⟩<;>(repeat' (first|exact FrSub.nil|(apply FrSub.cons;exact rfl)|exact HpSub.refl _)))
   · have hl:lt p x=false:=by
       cases hc:lt p x with
       | false=>rfl
       | true=>exact absurd (ho.2 hc) HN
     repeat' (first|((with_reducible apply oq_id);first|((with_reducible apply oq_lssF);exact rfl;exact rfl;exact HN)|(focus ((with_reducible apply oq_indexAddrN);(iterate 4 exact rfl);omega))|((with_reducible apply oq_leqT);exact rfl;exact rfl;omega)|(apply oq_fn;exact rfl;first|exact trivial|(and_intros<;>omega)|omega|skip)|((with_reducible apply oq_loadAgg);exact rfl;exact rfl)|((with_reducible apply oq_call (k:=kf) (hc:=HK.call));exact rfl;exact rfl;exact fun D w1 hw1=>HC w1))|((with_reducible apply gx_id);first|(with_reducible apply v_nil)|((with_reducible apply v_q);(iterate 3 exact rfl)))|((with_reducible apply rd_id);first|(apply Rd.own;(repeat first|exact P0|apply P1);with_reducible (first|exact q0|exact q1|exact r0|exact r1|exact s0|exact s1);done))|((with_reducible apply t_id);first|(apply t_mix (id:=5) [0,1,2,3,4,5,6,7,8,9,10,11,12,13,14,15] 0 #[false,false,false,false,false,false,false,false,false,false,false,false,false,false,false,false];kernel_rfl;kernel_rfl;exact rfl)|(with_reducible apply t_seq)|((with_reducible apply t_condF);exact rfl)|(with_reducible apply t_exit))|with_reducible apply q_thenN|with_reducible apply q_thenE|((with_reducible apply q_blockE);exact rfl)|exact Rdn.zero|apply Rdn.succ|((with_reducible apply al_id);first|(apply al_done;decide +kernel)))
     all_goals exact ⟨by trivial,j',⟨hv,hq,fun _=>⟨x,hx,hl⟩⟩,by (repeat' (first|exact FrSub.nil|(apply FrSub.cons;exact rfl))),by (repeat' (first|exact HpSub.refl _))⟩
 clear hq
 rintro j' ⟨hj,hq,hfj⟩
 try dsimp only
 have i1:=hq.i1
 have ij:=hq.ij
 have jb:=hq.jb
 by_cases hgt:j'<i'
 · repeat' (first|((with_reducible apply oq_id);first|((with_reducible apply oq_gtrT);exact rfl;exact rfl;omega)|(apply oq_fn;exact rfl;first|exact trivial|(and_intros<;>omega)|omega|skip))|((with_reducible apply tl_id);first|(with_reducible apply tl_nil)|((with_reducible apply u_q);(iterate 4 exact rfl)))|((with_reducible apply t_id);first|(with_reducible apply t_seq)|(apply t_region;kernel_rfl)|((with_reducible apply t_condT);exact rfl)|(with_reducible apply t_exit))|with_reducible apply q_thenN|with_reducible apply q_thenE|((with_reducible apply q_blockE);exact rfl)|((with_reducible apply q_blockO);exact rfl))
   all_goals exact ⟨by trivial,(i',j',Y),⟨hgt,hq,hs⟩,by (repeat' (first|exact FrSub.nil|(apply FrSub.cons;exact rfl))),by (repeat' (first|exact HpSub.refl _))⟩
 have hx:∃ x,Y[i']?=some x∧lt p x=true:=hfi (by omega)
 obtain ⟨x,hx,hxl⟩:=hx
 obtain ⟨y,hy,hyl⟩:=hfj (by omega)
 obtain ⟨hij,hsw⟩:=hq.swap (by omega) hx hxl hy hyl
 have hy2:=swp_get hx hy
 obtain ⟨q0,q1⟩:=co_at (fx:=fx) (fy:=fy) hx
 obtain ⟨r0,r1⟩:=co_at (fx:=fx) (fy:=fy) hy
 repeat' (first|((with_reducible apply oq_id);first|(focus ((with_reducible apply oq_indexAddrN);(iterate 4 exact rfl);omega))|(focus ((with_reducible apply (oq_addE (k:=((i'+1:Nat):Int))));exact rfl;exact rfl;omega))|(focus ((with_reducible apply (oq_subE (k:=((j'-1:Nat):Int))));exact rfl;exact rfl;omega))|((with_reducible apply oq_gtrF);exact rfl;exact rfl;omega)|(apply oq_fn;exact rfl;first|exact trivial|(and_intros<;>omega)|omega|skip)|((with_reducible apply oq_loadAgg);exact rfl;exact rfl))|((with_reducible apply tl_id);first|(with_reducible apply tl_nil)|((with_reducible apply u_q);(iterate 4 exact rfl)))|((with_reducible apply gx_id);first|(with_reducible apply v_nil)|((with_reducible apply v_q);(iterate 3 exact rfl)))|((with_reducible apply os_id);first|((with_reducible apply (os_storeCo (fx:=fx) (fy:=fy) y hx rfl));(iterate 3 exact rfl);(repeat first|exact P0|apply P1))|((with_reducible apply (os_storeCo (fx:=fx) (fy:=fy) x hy2 rfl));(iterate 3 exact rfl);(repeat first|exact P0|apply P1)))|((with_reducible apply ai_id);first|((with_reducible apply ai_q);(iterate 5 exact rfl))|((with_reducible apply ai_n0);(iterate 3 exact rfl)))|((with_reducible apply al_keep);focus (repeat (first|exact HpSub.refl _|(apply HpSub.cons;(repeat first|exact P0|apply P1))|apply HpSub.skipX|exact HpSub.nil)))|((with_reducible apply rd_id);first|(apply Rd.own;(repeat first|exact P0|apply P1);with_reducible (first|exact q0|exact q1|exact r0|exact r1|exact s0|exact s1);done))|((with_reducible apply t_id);first|(apply t_mixZ (id:=8) [0,1,2,3,4,5,6,8,9,10] 6;kernel_rfl;kernel_rfl;exact rfl)|(with_reducible apply t_seq)|(apply t_region;kernel_rfl)|((with_reducible apply t_condF);exact rfl)|(with_reducible apply t_skip))|with_reducible apply q_thenN|with_reducible apply q_blockN|exact Rdn.zero|apply Rdn.succ|((with_reducible apply al_id);first|(apply al_done;decide +kernel)|(apply al_one 7;decide +kernel)|(apply al_one 11;decide +kernel)|(apply al_one 12;decide +kernel)|(apply al_one 13;decide +kernel)|(apply al_one 14;decide +kernel)|(apply al_one 15;decide +kernel)|(apply al_two 7 11;decide +kernel)))
 all_goals (refine ⟨(i'+1,j'-1,(Y.set i' y).set j' x),⟨hsw,hs.swap hx hy (by omega) (by omega)⟩,(by simp only;omega),?_,?_⟩<;>(repeat' (first|exact FrSub.nil|(apply FrSub.cons;exact rfl)|exact HpSub.refl _)))
end Go.Proofs.Ytcjkndjjbjoehaa
