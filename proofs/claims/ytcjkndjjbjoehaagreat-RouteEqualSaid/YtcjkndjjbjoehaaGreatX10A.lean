/- A part of the proof: rules for walks, and contracts of functions (1). -/
import Derived.Test.YtcjkndjjbjoehaaGreatXBA
import Derived.Test.YtcjkndjjbjoehaaGreatXBB
import Derived.Test.YtcjkndjjbjoehaaGreatXBC
import Derived.Test.YtcjkndjjbjoehaaGreatXBD
import Derived.Test.YtcjkndjjbjoehaaGreatXBE
import Derived.Test.YtcjkndjjbjoehaaGreatXBF
import Derived.Test.YtcjkndjjbjoehaaGreatXBG
import Derived.Test.YtcjkndjjbjoehaaGreatXBH
import Derived.Test.YtcjkndjjbjoehaaGreatXBI
import Derived.Test.YtcjkndjjbjoehaaGreatXBJ
import Derived.Test.YtcjkndjjbjoehaaGreatXBK
import Derived.Test.YtcjkndjjbjoehaaGreatXBL
import Derived.Test.YtcjkndjjbjoehaaGreatXBM
import Derived.Test.YtcjkndjjbjoehaaGreatXBN
import Derived.Test.YtcjkndjjbjoehaaGreatXBO
import Derived.Test.YtcjkndjjbjoehaaGreatXBP
import Derived.WalkKit
import Derived.Lib.Hide
import Derived.Test.YtcjkndjjbjoehaaGreatChecked
import Derived.Orders
import Derived.Still
import Derived.Laws.StructEq
import Derived.RangeFuncNested
import Derived.RangeFuncCalls
import Derived.LoopIn
import Derived.RangeFuncLeaves
import Derived.RangeFuncRecord
import Derived.Maps.AppendAt
import Derived.IntWalk
import Derived.OrdersIn
import Derived.TacticsIn
import Derived.Laws.MakeOwn
import Derived.ProofKit
import Derived.Lib.SmallJoins
import Derived.Carry
import Derived.MapKept
import Derived.Laws.IdiomCopy
import Derived.RangeFuncBound
import Derived.Shelf.Abstract
import Derived.Shelf.RegionOpen
import Derived.OwnWalkIn
import Derived.TacticsInMore
import Derived.LoopNIn
import Derived.Test.YtcjkndjjbjoehaaGreatRows
set_option linter.unusedVariables false
set_option linter.unusedSimpArgs false
set_option maxRecDepth 100000
set_option maxHeartbeats 2000000
namespace Go.Proofs.YtcjkndjjbjoehaaGreat
theorem legC_open {v q1 q2 q3:Int} {g0 g1:Nat} {C:List Wn} {z:Lg} {bk:Bool}:0≤legC v q1 q2 q3 g0 g1 C z bk↔legRz v q1 q2 q3 z bk C≠[]:=by
 unfold legC
 split
 · rename_i h;exact ⟨fun k=>by omega,fun k=>absurd h k⟩
 · rename_i h;exact ⟨fun _=>h,fun _=>by omega⟩
end Go.Proofs.YtcjkndjjbjoehaaGreat
namespace Go.Proofs.YtcjkndjjbjoehaaGreat
open Go.ChangeShapes Go.WideShapes Go.ChangeAt Go.RowKit
section
variable {H:Type} {enc:TypeId×Value→H} {P:Program} {W:World} {held:Bool}
theorem in_openO {x:List Value} (h:LfsOk [.int .i64] x):∃ y:Int,x=inCells y∧True:=by
 obtain ⟨z0,u0,rfl,_,h⟩:=h.int
 obtain rfl:=h.nil
 exact ⟨z0,rfl,trivial⟩
end
end Go.Proofs.YtcjkndjjbjoehaaGreat
namespace Go.Proofs.YtcjkndjjbjoehaaGreat
open Go.RowKit
attribute [local irreducible] OQ OS OX Rd T TL GX GL AL AI RV wpG SAny Calls
theorem travel_no (AM A:Option Addr) (m cM n cp:Nat) (L:List Lg) (w:World) (hr:RdS w 5 A n (L.map lgCells)) (hn:n≤1000000) (hm:m≤1000000) (v q1 q2 q3 q4 g0 g1:Int) (AC:Option Addr) (nC cC:Nat) (C:List Wn) (hrc:CastR w AC nC C) (hs:∀ z∈C,z.n≤1000000) (s:Int) (AR:Option Addr) (nR cR:Nat) (rs:List Int) (hR:RdS w 1 AR nR (rs.map inCells)) (hnR:nR≤1000000) (hE:askE m L v q1 q2 q3 q4 g0 g1 C≠0):Calls Tryz.prog 57 #[.agg #[.slice AM m cM,.slice A n cp],.agg #[.int .i64 v,.int .i64 q1,.int .i64 q2,.int .i64 q3,.int .i64 q4,.int .i64 g0,.int .i64 g1],.slice AC nC cC,.int .i64 s,.slice AR nR cR] w fun e w'=>e=.returned (.tuple #[.pointer none,.int .i64 (askE m L v q1 q2 q3 q4 g0 g1 C)])∧Ext w w':=by
 have HN:=fun w1 (hx:Ext w w1)=>open_no AM A m cM n cp L w1 (hr.ext hx) hn hm v q1 q2 q3 q4 g0 g1 AC nC cC C (hrc.ext hx) hs hE
 generalize askE m L v q1 q2 q3 q4 g0 g1 C=e at *
 refine enterQ (c:=cx w 123) Tryz.func57 rfl rfl rfl rfl ?_
 ((all_goals refine gqT0e ?_);(all_goals constructor);(any_goals exact trivial);all_goals intros)
 all_goals rfl
theorem travel_many (AM A:Option Addr) (m cM n cp:Nat) (L:List Lg) (w:World) (hr:RdS w 5 A n (L.map lgCells)) (hn:n≤1000000) (hm:m≤1000000) (v q1 q2 q3 q4 g0 g1:Int) (AC:Option Addr) (nC cC:Nat) (C:List Wn) (hrc:CastR w AC nC C) (hs:∀ z∈C,z.n≤1000000) (s:Int) (AR:Option Addr) (nR cR:Nat) (rs:List Int) (hR:RdS w 1 AR nR (rs.map inCells)) (hnR:nR≤1000000) (hE:askE m L v q1 q2 q3 q4 g0 g1 C=0) (h20:20<rs.length):Calls Tryz.prog 57 #[.agg #[.slice AM m cM,.slice A n cp],.agg #[.int .i64 v,.int .i64 q1,.int .i64 q2,.int .i64 q3,.int .i64 q4,.int .i64 g0,.int .i64 g1],.slice AC nC cC,.int .i64 s,.slice AR nR cR] w fun e w'=>e=.returned (.tuple #[.pointer none,.int .i64 4])∧Ext w w':=by
 have hl:rs.length=nR:=by simpa using hR.len
 have HO:=fun w1 (hx:Ext w w1)=>open_ok AM A m cM n cp L w1 (hr.ext hx) hn hm v q1 q2 q3 q4 g0 g1 AC nC cC C (hrc.ext hx) hs hE
 refine enterQ (c:=cx w 123) Tryz.func57 rfl rfl rfl rfl ?_
 ((all_goals refine gqT0e ?_);(all_goals constructor);(any_goals exact trivial);all_goals intros)
 all_goals rfl
end Go.Proofs.YtcjkndjjbjoehaaGreat
namespace Go.Proofs.YtcjkndjjbjoehaaGreat
theorem lstP_none {hp:Nat→Nat→Bool} {ln:Nat→Nat}:∀ t,lstP hp ln t=none→∀ i,i<t→hp i 0=false
 | 0,_,i,hi=>absurd hi (Nat.not_lt_zero _)
 | k+1,h,i,hi=>by
   simp only [lstP] at h
   split at h
   · cases h
   · rename_i hk
     rcases Nat.lt_or_ge i k with h1|h1
     · exact lstP_none k h i h1
     · obtain rfl:i=k:=by omega
       simpa using hk
theorem lstP_some {hp:Nat→Nat→Bool} {ln:Nat→Nat}:∀ t,AntiP hp ln t→∀ k m,lstP hp ln t=some (k,m)→k<t∧m≤ln k∧hp k m=true∧(∀ m',m<m'→m'≤ln k→hp k m'=false)∧∀ i m',k<i→i<t→m'≤ln i→hp i m'=false
 | 0,_,k,m,h=>by cases h
 | t+1,ha,k,m,h=>by
   simp only [lstP] at h
   split at h
   · rename_i h0
     obtain ⟨rfl,rfl⟩:=Prod.mk.inj (Option.some.inj h)
     obtain ⟨s1,s2⟩:=lastM_spec h0 (ln t)
     exact ⟨by omega,lastM_le _ _,s1,s2,fun i m' h1 h2 _=>absurd h1 (by omega)⟩
   · rename_i h0
     obtain ⟨i1,i2,i3,i4,i5⟩:=lstP_some t (fun i m i' m' hi=>ha i m i' m' (by omega)) k m h
     refine ⟨by omega,i2,i3,i4,fun i m' h1 h2 h3=>?_⟩
     rcases Nat.lt_or_ge i t with h4|h4
     · exact i5 i m' h1 h4 h3
     · obtain rfl:i=t:=by omega
       cases hc:hp i m' with
       | false=>rfl
       | true=>exact absurd (ha i 0 i m' (by omega) (Nat.zero_le _) h3 (.inr ⟨rfl,Nat.zero_le _⟩) hc) (by simpa using h0)
end Go.Proofs.YtcjkndjjbjoehaaGreat
namespace Go.Proofs.YtcjkndjjbjoehaaGreat
open Go.RowKit
theorem askE_bad {m:Nat} {L:List Lg} {v q1 q2 q3 q4 g0 g1:Int} {C:List Wn} (h:askE m L v q1 q2 q3 q4 g0 g1 C≠0):askE m L v q1 q2 q3 q4 g0 g1 C∈[61,62,4,22]:=by
 have key:askE m L v q1 q2 q3 q4 g0 g1 C=61∨askE m L v q1 q2 q3 q4 g0 g1 C=62∨askE m L v q1 q2 q3 q4 g0 g1 C=4∨askE m L v q1 q2 q3 q4 g0 g1 C=22∨askE m L v q1 q2 q3 q4 g0 g1 C=0:=by
   unfold askE castE
   (repeat' split)<;>simp
 rcases key with e|e|e|e|e<;>rw [e]<;>first|decide|exact absurd e h
end Go.Proofs.YtcjkndjjbjoehaaGreat
namespace Go.Proofs.YtcjkndjjbjoehaaGreat
open Go.RowKit
attribute [local irreducible] OQ OS OX Rd T TL GX GL AL AI RV wpG SAny Calls
theorem equal1_calls (a b c:Nat×Nat) (w:World):Calls Tryz.prog 65 #[.agg #[.int .i64 (a.1:Nat),.int .i64 (a.2:Nat)],.agg #[.int .i64 (b.1:Nat),.int .i64 (b.2:Nat)],.agg #[.int .i64 (c.1:Nat),.int .i64 (c.2:Nat)]] w fun e w'=>e=.returned (.bool (decide (b.1≤c.1)))∧Ext w w':=by
 obtain ⟨a1,a2⟩:=a
 obtain ⟨b1,b2⟩:=b
 obtain ⟨c1',c2'⟩:=c
 simp only
 by_cases h:b1≤c1'
 · rw [decide_eq_true h]
   refine enterQ (c:=cx w 12) Tryz.func65 rfl rfl rfl rfl ?_
   repeat' (first|((with_reducible apply oq_id);first|((with_reducible apply oq_leqT);exact rfl;exact rfl;omega)|(apply oq_fn;exact rfl;first|exact trivial|(and_intros<;>omega)|omega|skip)|((with_reducible apply oq_load);exact rfl;exact rfl))|((with_reducible apply tl_id);first|(with_reducible apply tl_nil)|((with_reducible apply u_q);(iterate 4 exact rfl))|((with_reducible apply u_s);(iterate 3 exact rfl)))|((with_reducible apply os_id);first|((with_reducible apply os_x);exact rfl))|((with_reducible apply ox_id);first|((with_reducible apply ox_boxAgg);exact rfl;intro _))|((with_reducible apply rd_id);first|(apply Rd.own;(repeat first|exact P0|apply P1);exact rfl;done))|((with_reducible apply t_id);first|(with_reducible apply t_seq)|(apply t_region;kernel_rfl)|(with_reducible apply t_ret))|with_reducible apply q_thenN|(with_reducible apply end_ret)|exact rvs_nil|(with_reducible apply rvs_cons)|((with_reducible apply rv_tmp);exact rfl))
   all_goals rfl
 · rw [decide_eq_false h]
   refine enterQ (c:=cx w 12) Tryz.func65 rfl rfl rfl rfl ?_
   repeat' (first|((with_reducible apply oq_id);first|((with_reducible apply oq_leqF);exact rfl;exact rfl;omega)|(apply oq_fn;exact rfl;first|exact trivial|(and_intros<;>omega)|omega|skip)|((with_reducible apply oq_load);exact rfl;exact rfl))|((with_reducible apply tl_id);first|(with_reducible apply tl_nil)|((with_reducible apply u_q);(iterate 4 exact rfl))|((with_reducible apply u_s);(iterate 3 exact rfl)))|((with_reducible apply os_id);first|((with_reducible apply os_x);exact rfl))|((with_reducible apply ox_id);first|((with_reducible apply ox_boxAgg);exact rfl;intro _))|((with_reducible apply rd_id);first|(apply Rd.own;(repeat first|exact P0|apply P1);exact rfl;done))|((with_reducible apply t_id);first|(with_reducible apply t_seq)|(apply t_region;kernel_rfl)|(with_reducible apply t_ret))|with_reducible apply q_thenN|(with_reducible apply end_ret)|exact rvs_nil|(with_reducible apply rvs_cons)|((with_reducible apply rv_tmp);exact rfl))
   all_goals rfl
def ledE (m:Nat) (L:List Lg) (v q1 q2 q3 q4 g0 g1:Int) (C:List Wn) (s:Int) (rs:List Int):Int:=
 if askE m L v q1 q2 q3 q4 g0 g1 C=0 then (if rs.length≤20 then (match tripI m L s rs with|none=>2|some _=>0) else 4) else askE m L v q1 q2 q3 q4 g0 g1 C
theorem led_zero {m:Nat} {L:List Lg} {v q1 q2 q3 q4 g0 g1:Int} {C:List Wn} {s:Int} {rs:List Int} (h:ledE m L v q1 q2 q3 q4 g0 g1 C s rs=0):askE m L v q1 q2 q3 q4 g0 g1 C=0∧rs.length≤20∧∃ p,tripI m L s rs=some p:=by
 unfold ledE at h
 split at h
 · rename_i h1
   split at h
   · rename_i h2
     cases hp:tripI m L s rs with
     | none=>rw [hp] at h;cases h
     | some p=>exact ⟨h1,h2,p,rfl⟩
   · cases h
 · rename_i h1
   exact absurd h h1
theorem travel_err (AM A:Option Addr) (m cM n cp:Nat) (L:List Lg) (w:World) (hr:RdS w 5 A n (L.map lgCells)) (hn:n≤1000000) (hm:m≤1000000) (v q1 q2 q3 q4 g0 g1:Int) (AC:Option Addr) (nC cC:Nat) (C:List Wn) (hrc:CastR w AC nC C) (hs:∀ z∈C,z.n≤1000000) (s:Int) (AR:Option Addr) (nR cR:Nat) (rs:List Int) (hR:RdS w 1 AR nR (rs.map inCells)) (hnR:nR≤1000000) (he:ledE m L v q1 q2 q3 q4 g0 g1 C s rs≠0):Calls Tryz.prog 57 #[.agg #[.slice AM m cM,.slice A n cp],.agg #[.int .i64 v,.int .i64 q1,.int .i64 q2,.int .i64 q3,.int .i64 q4,.int .i64 g0,.int .i64 g1],.slice AC nC cC,.int .i64 s,.slice AR nR cR] w fun e w'=>e=.returned (.tuple #[.pointer none,.int .i64 (ledE m L v q1 q2 q3 q4 g0 g1 C s rs)])∧Ext w w':=by
 by_cases hE:askE m L v q1 q2 q3 q4 g0 g1 C=0
 rotate_left
 · rw [show ledE m L v q1 q2 q3 q4 g0 g1 C s rs=askE m L v q1 q2 q3 q4 g0 g1 C from if_neg hE]
   exact travel_no AM A m cM n cp L w hr hn hm v q1 q2 q3 q4 g0 g1 AC nC cC C hrc hs s AR nR cR rs hR hnR hE
 by_cases h20:rs.length≤20
 rotate_left
 · rw [show ledE m L v q1 q2 q3 q4 g0 g1 C s rs=4 by unfold ledE;rw [if_pos hE,if_neg h20]]
   exact travel_many AM A m cM n cp L w hr hn hm v q1 q2 q3 q4 g0 g1 AC nC cC C hrc hs s AR nR cR rs hR hnR hE (by omega)
 cases hp:tripI m L s rs with
 | some p=>exact absurd (by unfold ledE;rw [if_pos hE,if_pos h20,hp]) he
 | none=>
   rw [show ledE m L v q1 q2 q3 q4 g0 g1 C s rs=2 by unfold ledE;rw [if_pos hE,if_pos h20,hp]]
   have h:=travel_ok AM A m cM n cp L w hr hn hm v q1 q2 q3 q4 g0 g1 AC nC cC C hrc hs s AR nR cR rs hR hnR hE h20
   rw [hp] at h
   exact h.mono fun e w' ⟨u,H',h1,⟨h2,h3⟩,h4⟩=>⟨by rw [h1,h2],h4.ext.ext⟩
def eqP (a b c:Nat×Nat):Bool:=decide (b.1≤c.1)
theorem eqP_anti:∀ a a' b b' c c',leP a a'→leP b b'→leP c' c→eqP a' b' c'=true→eqP a b c=true:=fun a a' b b' c c' h1 h2 h3 h=>by
 unfold eqP leP at *
 rw [decide_eq_true_eq] at *
 omega
theorem equal18_err (AM A:Option Addr) (m cM n cp:Nat) (L:List Lg) (w:World) (hr:RdS w 5 A n (L.map lgCells)) (hn:n≤1000000) (hm:m≤1000000) (v q1 q2 q3 q4 g0 g1:Int) (AC:Option Addr) (nC cC:Nat) (C:List Wn) (hrc:CastR w AC nC C) (hs:∀ z∈C,z.n≤1000000) (s:Int) (AR:Option Addr) (nR cR:Nat) (rs:List Int) (hR:RdS w 1 AR nR (rs.map inCells)) (hnR:nR≤1000000) (he:ledE m L v q1 q2 q3 q4 g0 g1 C s rs≠0):Calls Tryz.prog 18 #[.agg #[.slice AM m cM,.slice A n cp],.agg #[.int .i64 v,.int .i64 q1,.int .i64 q2,.int .i64 q3,.int .i64 q4,.int .i64 g0,.int .i64 g1],.slice AC nC cC,.int .i64 s,.slice AR nR cR] w fun e w'=>e=.returned (.tuple #[.agg #[.int .i64 0,.int .i64 0],.int .i64 (ledE m L v q1 q2 q3 q4 g0 g1 C s rs)])∧Ext w w':=by
 have HN:=fun w1 (hx:Ext w w1)=>travel_err AM A m cM n cp L w1 (hr.ext hx) hn hm v q1 q2 q3 q4 g0 g1 AC nC cC C (hrc.ext hx) hs s AR nR cR rs (hR.ext hx) hnR he
 generalize ledE m L v q1 q2 q3 q4 g0 g1 C s rs=e0 at *
 refine enterQ (c:=cx w 31) Tryz.func18 rfl rfl rfl rfl ?_
 repeat' (first|((with_reducible apply oq_id);first|((with_reducible apply oq_neqT);exact rfl;exact rfl;omega)|(apply oq_fn;exact rfl;first|exact trivial|(and_intros<;>omega)|omega|skip)|((with_reducible apply oq_loadAgg);exact rfl;exact rfl)|((with_reducible apply oq_call (hc:=Tryz.call57));exact rfl;exact rfl;exact fun D w1 hw1=>HN w1 hw1.ext.ext)|((with_reducible apply oq_build);(iterate 3 exact rfl)))|((with_reducible apply tl_id);first|(with_reducible apply tl_nil)|((with_reducible apply u_q);(iterate 4 exact rfl))|((with_reducible apply u_s0);exact rfl;exact rfl)|((with_reducible apply u_s);(iterate 3 exact rfl)))|((with_reducible apply os_id);first|((with_reducible apply os_x);exact rfl)|((with_reducible apply os_storeAgg);(iterate 5 exact rfl)))|((with_reducible apply ox_id);first|((with_reducible apply ox_alloc);exact rfl;intro _)|((with_reducible apply ox_boxAgg);exact rfl;intro _))|((with_reducible apply rd_id);first|(apply Rd.own;(repeat first|exact P0|apply P1);exact rfl;done))|((with_reducible apply t_id);first|(with_reducible apply t_seq)|(apply t_region;kernel_rfl)|((with_reducible apply t_condT);exact rfl)|(with_reducible apply t_ret))|with_reducible apply q_thenN|with_reducible apply q_thenR|exact P0|exact Rdn.zero|apply Rdn.succ|((with_reducible apply Norm.nil);exact rfl)|((with_reducible apply Norm.cons);exact rfl)|(with_reducible apply end_ret)|exact rvs_nil|(with_reducible apply rvs_cons)|((with_reducible apply rv_tmp);exact rfl)|((with_reducible apply rv_cellAgg);exact rfl;exact rfl)|exact Nat.le_of_ble_eq_true rfl)
 all_goals rfl
theorem equal18_ok (AM A:Option Addr) (m cM n cp:Nat) (L:List Lg) (w:World) (hr:RdS w 5 A n (L.map lgCells)) (hn:n≤1000000) (hm:m≤1000000) (v q1 q2 q3 q4:Int) (g0 g1:Nat) (AC:Option Addr) (nC cC:Nat) (C:List Wn) (hrc:CastR w AC nC C) (hs:∀ z∈C,z.n≤1000000) (s:Int) (AR:Option Addr) (nR cR:Nat) (rs:List Int) (hR:RdS w 1 AR nR (rs.map inCells)) (hnR:nR≤1000000) (hE:askE m L v q1 q2 q3 q4 (g0:Nat) (g1:Nat) C=0) (h20:rs.length≤20) (p:Trp) (htr:tripI m L s rs=some p):Calls Tryz.prog 18 #[.agg #[.slice AM m cM,.slice A n cp],.agg #[.int .i64 v,.int .i64 q1,.int .i64 q2,.int .i64 q3,.int .i64 q4,.int .i64 (g0:Nat),.int .i64 (g1:Nat)],.slice AC nC cC,.int .i64 s,.slice AR nR cR] w fun e w'=>e=.returned (.tuple #[.agg #[.int .i64 ((ptR v q1 q2 q3 g0 g1 C L p eqP).1.1:Nat),.int .i64 ((ptR v q1 q2 q3 g0 g1 C L p eqP).1.2:Nat)],.int .i64 (ptR v q1 q2 q3 g0 g1 C L p eqP).2])∧Ext w w':=by
 have HO:=fun w1 (hx:Ext w w1)=>travel_ok AM A m cM n cp L w1 (hr.ext hx) hn hm v q1 q2 q3 q4 g0 g1 AC nC cC C (hrc.ext hx) hs s AR nR cR rs (hR.ext hx) hnR hE h20
 rw [htr] at HO
 obtain ⟨hch,hpk,hk0⟩:=askE_ok hE
 obtain ⟨hcl,hcw⟩:=castE_zero.1 hk0
 have hlc:=hrc.len
 obtain ⟨hm1,hL40,hLk⟩:=chartB_iff.1 hch
 have hl:L.length=n:=by simpa using hr.len
 have hTI:=trip_in hLk htr
 have HL:=fun bT bD bM bS cS E AG cG w1 (hx:Ext w w1) (ht:TrpR w1 bT bD bM (some ⟨bS,0,none⟩) cS AG cG AM A m cM n cp v q1 q2 q3 q4 g0 g1 E p) hE2=>last58_calls bT bD bM (some ⟨bS,0,none⟩) cS AG cG AM A m cM n cp L v q1 q2 q3 q4 g0 g1 E C p rs w1 ht hTI hE2 (hr.ext hx) (by omega) (by omega) h20 hLk hpk hcw (by omega) 65 [] Tryz.call65 eqP (fun a b c hab w2 h2=>equal1_calls a b c w2) (anti_of (fun x m m' h=>bilL_mono h) eqP_anti)
 unfold ptR
 generalize lasR p.1 (opB (flC v q1 q2 q3 g0 g1 C L) p.1) (hpL (bilL v q1 q2 q3 g0 g1 C L) (lnL L) p.1 eqP) (lnG (lnL L) p.1)=res at *
 refine enterQ (c:=cx w 31) Tryz.func18 rfl rfl rfl rfl ?_
 repeat' (first|((with_reducible apply oq_id);first|((with_reducible apply oq_neqF);exact rfl;exact rfl;omega)|(apply oq_fn;exact rfl;first|exact trivial|(and_intros<;>omega)|omega|skip)|((with_reducible apply oq_loadAgg);exact rfl;exact rfl)|((with_reducible apply oq_call (hc:=Tryz.call58));exact rfl;exact rfl;exact fun D w1 hw1=>(by obtain ⟨AG,cG,ht⟩:=TrpR.of_has (hw1.sub (by repeat (first|exact HpSub.refl _|apply HpSub.skipX))) ho hnl;exact HL bT bD bM bS cS E AG cG w1 hw1.ext.ext ht hE2 )))|((with_reducible apply tl_id);first|(with_reducible apply tl_nil)|((with_reducible apply u_s);(iterate 3 exact rfl);(with_reducible apply os_callS (PV:=TravV AM _ m cM n cp v q1 q2 q3 q4 g0 g1 C L (some p)) (hc:=Tryz.call57));exact rfl;exact rfl;exact fun D w1 hw1=>HO w1 hw1.ext.ext;rintro _ _ ⟨bT,bD,bM,bS,cS,E,o,rfl,ho,rfl,hE2,hnl⟩;simp only [List.cons_append,List.nil_append])|((with_reducible apply u_q);(iterate 4 exact rfl))|((with_reducible apply u_s0);exact rfl;exact rfl)|((with_reducible apply u_s);(iterate 3 exact rfl)))|((with_reducible apply os_id);first|((with_reducible apply os_x);exact rfl)|((with_reducible apply os_storeAgg);(iterate 5 exact rfl)))|((with_reducible apply ox_id);first|((with_reducible apply ox_alloc);exact rfl;intro _)|((with_reducible apply ox_boxAgg);exact rfl;intro _))|((with_reducible apply rd_id);first|(apply Rd.own;(repeat first|exact P0|apply P1);exact rfl;done))|((with_reducible apply t_id);first|(with_reducible apply t_seq)|(apply t_region;kernel_rfl)|((with_reducible apply t_condF);exact rfl)|(with_reducible apply t_ret)|(with_reducible apply t_skip))|with_reducible apply q_thenN|exact P0|exact Rdn.zero|apply Rdn.succ|((with_reducible apply Norm.nil);exact rfl)|((with_reducible apply Norm.cons);exact rfl)|(with_reducible apply end_ret)|exact rvs_nil|(with_reducible apply rvs_cons)|((with_reducible apply rv_tmp);exact rfl)|((with_reducible apply rv_cellAgg);exact rfl;exact rfl)|exact Nat.le_of_ble_eq_true rfl)
 all_goals rfl
theorem part_bil (AM A:Option Addr) (m cM n cp:Nat) (L:List Lg) (w:World) (hr:RdS w 5 A n (L.map lgCells)) (hn:n≤1000000) (hm:m≤1000000) (v q1 q2 q3 q4:Int) (g0 g1:Nat) (AC:Option Addr) (nC cC:Nat) (C:List Wn) (hrc:CastR w AC nC C) (hs:∀ z∈C,z.n≤1000000) (hE:askE m L v q1 q2 q3 q4 (g0:Nat) (g1:Nat) C=0) {t:Nat} {z:Lg} (hz:L[t]?=some z) (b:Bool) (mm:Nat) (hmm:(mm:Int)≤lenV z.x z.y) (hR:legRz v q1 q2 q3 z b C≠[]):∃ l1 l2:Int,∀ w1,Ext w w1→Calls Tryz.prog 37 #[.agg #[.slice AM m cM,.slice A n cp],.agg #[.int .i64 v,.int .i64 q1,.int .i64 q2,.int .i64 q3,.int .i64 q4,.int .i64 (g0:Nat),.int .i64 (g1:Nat)],.slice AC nC cC,.int .i64 (t:Nat),.bool b,.int .i64 (mm:Nat)] w1 fun e w'=>e=.returned (.tuple #[.agg #[.int .i64 l1,.int .i64 (((bilL v q1 q2 q3 g0 g1 C L) (t,b) mm).1:Nat)],.agg #[.int .i64 l2,.int .i64 (((bilL v q1 q2 q3 g0 g1 C L) (t,b) mm).2:Nat)],.int .i64 0])∧Ext w1 w':=by
 obtain ⟨P,hPe,hPi⟩:=partR_is m L v q1 q2 q3 q4 (g0:Nat) (g1:Nat) C (t:Nat) b (mm:Nat)
 have hk:PtOk m L v q1 q2 q3 q4 (g0:Nat) (g1:Nat) C (t:Nat) b (mm:Nat) z mm:=⟨hE,by omega,by rw [Int.toNat_natCast];exact hz,rfl,hmm,hR⟩
 obtain ⟨_,⟨_,_,_,_,_,p6⟩,_,_,k5,k6⟩:=hk.facts
 have hb:=hullT_bound k5 _ k6
 have hd:=hPi.det hk
 refine ⟨P.1.1,P.2.1.1,fun w1 hx=>?_⟩
 have h:=part16_calls AM A m cM n cp L w1 (hr.ext hx) hn hm v q1 q2 q3 q4 (g0:Nat) (g1:Nat) AC nC cC C (hrc.ext hx) hs (t:Nat) b (mm:Nat)
 rw [hPe,hd] at h
 rw [hd]
 have e:(bilL v q1 q2 q3 g0 g1 C L) (t,b) mm=((hullT mm (legRz v q1 q2 q3 z b C)).2,qc ((hullT mm (legRz v q1 q2 q3 z b C)).2*g1)):=by
   unfold bilL
   rw [hz]
   simp only
   unfold bilV
   rw [if_neg hR,aH_eq hb.1 (by omega)]
 rw [e]
 exact h
def bl3 (x0 y0 x1 y1 x2 y2:Nat):Nat→List Value
 | 0=>[.int .i64 (x0:Nat),.int .i64 (x1:Nat),.int .i64 (x2:Nat)]
 | 1=>[.int .i64 (y0:Nat),.int .i64 (x1:Nat),.int .i64 (x2:Nat)]
 | 2=>[.int .i64 (y0:Nat),.int .i64 (y1:Nat),.int .i64 (x2:Nat)]
 | _=>[.int .i64 (y0:Nat),.int .i64 (y1:Nat),.int .i64 (y2:Nat)]
theorem bill_calls (AM A:Option Addr) (m cM n cp:Nat) (L:List Lg) (w:World) (hr:RdS w 5 A n (L.map lgCells)) (hn:n≤1000000) (hm:m≤1000000) (v q1 q2 q3 q4:Int) (g0 g1:Nat) (AC:Option Addr) (nC cC:Nat) (C:List Wn) (hrc:CastR w AC nC C) (hs:∀ z∈C,z.n≤1000000) (hE:askE m L v q1 q2 q3 q4 (g0:Nat) (g1:Nat) C=0) (AR:Option Addr) (nR cR:Nat) (rs:List Int) (hR:RdS w 1 AR nR (rs.map inCells)) (h20:rs.length≤20) (p:Trp) (hTI:TI L m rs p) (s:Nat) (hs0:p.2[0]?=some s) (hop:∀ (j:Nat) (x:Nat×Bool) (z:Lg),p.1[j]?=some x→L[x.1]?=some z→legRz v q1 q2 q3 z false C≠[]∧legRz v q1 q2 q3 z true C≠[]) (h me:Nat) (hh:h≤1000000) (hme:∀ x,p.1[h]?=some x→me≤lnL L x.1) (hme2:me≤1000000):Calls Tryz.prog 46 #[.agg #[.slice AM m cM,.slice A n cp],.agg #[.int .i64 v,.int .i64 q1,.int .i64 q2,.int .i64 q3,.int .i64 q4,.int .i64 (g0:Nat),.int .i64 (g1:Nat)],.slice AC nC cC,.int .i64 (s:Nat),.slice AR nR cR,.agg #[.int .i64 (h:Nat),.int .i64 (me:Nat)]] w fun e w'=>e=.returned (.tuple #[.agg #[.int .i64 (((atF (bilL v q1 q2 q3 g0 g1 C L) (lnL L) p.1 h me rs.length).1.2:Nat):Int),.int .i64 (((atF (bilL v q1 q2 q3 g0 g1 C L) (lnL L) p.1 h me rs.length).2.1.2:Nat):Int),.int .i64 (((atF (bilL v q1 q2 q3 g0 g1 C L) (lnL L) p.1 h me rs.length).2.2.2:Nat):Int)],.agg #[.int .i64 (((atF (bilL v q1 q2 q3 g0 g1 C L) (lnL L) p.1 h me rs.length).1.1:Nat):Int),.int .i64 (((atF (bilL v q1 q2 q3 g0 g1 C L) (lnL L) p.1 h me rs.length).2.1.1:Nat):Int),.int .i64 (((atF (bilL v q1 q2 q3 g0 g1 C L) (lnL L) p.1 h me rs.length).2.2.1:Nat):Int)],.bool true])∧Ext w w':=by
 obtain ⟨hch,hpk,hk0⟩:=askE_ok hE
 obtain ⟨hcl,hcw⟩:=castE_zero.1 hk0
 obtain ⟨hm1,hL40,hLk⟩:=chartB_iff.1 hch
 have hl:L.length=n:=by simpa using hr.len
 have hlr:rs.length=nR:=by simpa using hR.len
 obtain ⟨hg1,hg2,hg3,hg4⟩:=id hTI
 have hs2:p.2.getD 0 0=s:=by rw [List.getD_eq_getElem?_getD,hs0];rfl
 have hbd:=atF_bound (bil:=(bilL v q1 q2 q3 g0 g1 C L)) (ln:=(lnL L)) (g:=p.1) (h:=h) (me:=me) (bilL_bound hLk hpk hcw) (lnL_le hLk) hme2
 refine enterQ (c:=cx w 144) Tryz.func46 rfl rfl rfl rfl ?_
 repeat' (first|((with_reducible apply oq_id);first|(apply oq_fn;exact rfl;first|exact trivial|(and_intros<;>omega)|omega|skip))|((with_reducible apply tl_id);first|(with_reducible apply tl_nil)|((with_reducible apply u_q);(iterate 4 exact rfl))|((with_reducible apply u_s);(iterate 3 exact rfl)))|((with_reducible apply os_id);first|((with_reducible apply os_x);exact rfl))|((with_reducible apply ox_id);first|((with_reducible apply ox_alloc);exact rfl;intro _)|((with_reducible apply ox_boxAgg);exact rfl;intro _))|((with_reducible apply t_id);first|(with_reducible apply t_seq)|(apply t_region;kernel_rfl)|(with_reducible apply t_block))|with_reducible apply q_thenN)
 rename_i b6 b7 b11 b12 b13
 apply t_loopP (ι:=Nat) [2,6,7,11,12,13,28,29] (fun i=>[(30,.int .i64 ((i:Nat):Int)),(15,.int .i64 ((p.2.getD i 0:Nat):Int))]) (fun i=>(b12,[.int .i64 (((atF (bilL v q1 q2 q3 g0 g1 C L) (lnL L) p.1 h me i).1.2:Nat):Int),.int .i64 (((atF (bilL v q1 q2 q3 g0 g1 C L) (lnL L) p.1 h me i).2.1.2:Nat):Int),.int .i64 (((atF (bilL v q1 q2 q3 g0 g1 C L) (lnL L) p.1 h me i).2.2.2:Nat):Int)],some (93,3,1))::(b13,[.int .i64 (((atF (bilL v q1 q2 q3 g0 g1 C L) (lnL L) p.1 h me i).1.1:Nat):Int),.int .i64 (((atF (bilL v q1 q2 q3 g0 g1 C L) (lnL L) p.1 h me i).2.1.1:Nat):Int),.int .i64 (((atF (bilL v q1 q2 q3 g0 g1 C L) (lnL L) p.1 h me i).2.2.1:Nat):Int)],some (93,3,1))::(b6,[.slice AM m cM,.slice A n cp],some (25,2,1))::(b7,[.int .i64 v,.int .i64 q1,.int .i64 q2,.int .i64 q3,.int .i64 q4,.int .i64 (g0:Nat),.int .i64 (g1:Nat)],some (29,7,1))::(b11,[.int .i64 (h:Nat),.int .i64 (me:Nat)],some (34,2,1))::[]) (fun i=>i≤rs.length) (fun i=>rs.length-i) (0)
 (repeat (first|exact KeepF.nil|(apply KeepF.cons;exact rfl)|apply KeepF.skip))
 (repeat first|exact FrSub.nil|(apply FrSub.cons;exact rfl))
 (try simp only [List.cons_append,List.nil_append])
 (repeat' (first|exact FrSub.nil|(apply FrSub.consE;exact rfl;first|rfl|(focus (omega))|skip)|exact HpSub.refl _|(apply HpSub.consE;(repeat first|exact P0|apply P1);first|exact rfl|skip)))
 · rw [hs2]
 · exact Nat.zero_le _
 rintro i hi
 try simp only [List.cons_append,List.nil_append]
 by_cases hlt:i<rs.length
 rotate_left
 · obtain rfl:i=rs.length:=by omega
   repeat' (first|((with_reducible apply oq_id);first|((with_reducible apply oq_lssF);exact rfl;exact rfl;omega)|(apply oq_fn;exact rfl;first|exact trivial|(and_intros<;>omega)|omega|skip)|((with_reducible apply oq_loadAgg);exact rfl;exact rfl))|((with_reducible apply tl_id);first|(with_reducible apply tl_nil)|((with_reducible apply u_q);(iterate 4 exact rfl)))|((with_reducible apply gx_id);first|(with_reducible apply v_nil)|((with_reducible apply v_q);(iterate 3 exact rfl)))|((with_reducible apply os_id);first|((with_reducible apply os_storeAgg);(iterate 5 exact rfl)))|((with_reducible apply ai_id);first|((with_reducible apply ai_q);(iterate 5 exact rfl))|((with_reducible apply ai_s0);(iterate 4 exact rfl)))|((with_reducible apply rd_id);first|(apply Rd.own;(repeat first|exact P0|apply P1);exact rfl;done))|((with_reducible apply t_id);first|(apply t_mix (id:=25) [0] 4 #[false,false,true,true,false];kernel_rfl;kernel_rfl;exact rfl)|(with_reducible apply t_seq)|(apply t_region;kernel_rfl)|((with_reducible apply t_condF);exact rfl)|(with_reducible apply t_ret)|(with_reducible apply t_exit))|with_reducible apply q_thenN|with_reducible apply q_thenE|((with_reducible apply q_blockE);exact rfl)|exact P0|(with_reducible apply P1)|exact Rdn.zero|apply Rdn.succ|((with_reducible apply Norm.nil);exact rfl)|((with_reducible apply Norm.cons);exact rfl)|(with_reducible apply end_ret)|exact rvs_nil|(with_reducible apply rvs_cons)|((with_reducible apply rv_tmp);exact rfl)|((with_reducible apply rv_cellAgg);exact rfl;exact rfl)|((with_reducible apply al_id);first|(apply al_done;decide +kernel)|(apply al_one 1;decide +kernel)|(apply al_one 2;decide +kernel)|(apply al_one 3;decide +kernel)|(apply al_one 4;decide +kernel)|(apply al_two 1 2;decide +kernel))|exact Nat.le_of_ble_eq_true rfl)
   all_goals rfl
 obtain ⟨r,hri⟩:∃ r,rs[i]?=some r:=⟨_,List.getElem?_eq_getElem hlt⟩
 obtain ⟨z,t,bk,x,y,e1,rfl,hz,ex,ey,e6⟩:=hg4 i r hri
 obtain ⟨bR,oR,r',rfl,_,hri',c9⟩:=in_read hR (show i<nR by omega)
 rw [hri] at hri'
 obtain rfl:=Option.some.inj hri'
 have htn:t<n:=by have:=(List.getElem?_eq_some_iff.1 hz).1;omega
 obtain ⟨bA,oA,z',rfl,_,hz',c0,c1,c2,c3,c4⟩:=lg_read hr htn
 rw [hz] at hz'
 obtain rfl:=Option.some.inj hz'
 obtain ⟨za,zb,zab,kx,ky,kz,kh⟩:=hLk z (List.mem_of_getElem? hz)
 have lb:=lenV_bound kx ky
 have hxi:p.2.getD i 0=x:=by rw [List.getD_eq_getElem?_getD,ex];rfl
 have hyi:p.2.getD (i+1) 0=y:=by rw [List.getD_eq_getElem?_getD,ey];rfl
 rw [hxi]
 have HL:=fun w1 (hx:Ext w w1)=>routeLength_calls AM (some ⟨bA,oA,none⟩) m cM n cp L w1 (hr.ext hx) hn hm ((t:Nat):Int)
 rw [lengthR_in hch hz] at HL
 obtain ⟨o1,o2⟩:=hop i _ z e1 hz
 have hob:∀ b,legRz v q1 q2 q3 z b C≠[]:=fun b=>by cases b;exact o1;exact o2
 have HPB:=fun (b:Bool) (mm:Nat) (hmm:(mm:Int)≤lenV z.x z.y)=>part_bil AM (some ⟨bA,oA,none⟩) m cM n cp L w hr hn hm v q1 q2 q3 q4 g0 g1 AC nC cC C hrc hs hE hz b mm hmm (hob b)
 obtain ⟨ln,hln⟩:=Int.eq_ofNat_of_zero_le lb.1
 rw [hln] at HL HPB
 have hlnL:lnL L t=ln:=by unfold lnL;rw [hz];show (lenV z.x z.y).toNat=ln;rw [hln];rfl
 have hat:=atF_at (bil:=(bilL v q1 q2 q3 g0 g1 C L)) (ln:=(lnL L)) (h:=h) (me:=me) e1
 simp only [hlnL] at hat
 obtain ⟨⟨k1,k2⟩,⟨k3,k4⟩,k5,k6⟩:=hbd i
 have hk20:i≤20:=by omega
 have HM:atM ln h me i≤ln:=by
   unfold atM
   split
   · exact Nat.le_refl _
   · split
     · exact Nat.zero_le _
     · obtain rfl:i=h:=by omega
       have:=hme _ e1
       rw [hlnL] at this
       exact this
 have hMc:(i<h∧atM ln h me i=ln)∨(i=h∧atM ln h me i=me)∨(h<i∧atM ln h me i=0):=by
   unfold atM
   (repeat' split)<;>omega
 obtain ⟨M,hM⟩:∃ M,atM ln h me i=M:=⟨_,rfl⟩
 rw [hM] at hat HM hMc
 clear hM
 obtain ⟨l1,l2,HP0⟩:=HPB bk M (by omega)
 obtain ⟨l3,l4,HP1⟩:=HPB (!bk) M (by omega)
 obtain ⟨l5,l6,HP2⟩:=HPB bk (ln-M) (by omega)
 have m0:=bilL_bound (L:=L) hLk hpk hcw (t,bk) M (by omega)
 have m1:=bilL_bound (L:=L) hLk hpk hcw (t,!bk) M (by omega)
 have m2:=bilL_bound (L:=L) hLk hpk hcw (t,bk) (ln-M) (by omega)
 clear HPB hbd
 generalize (bilL v q1 q2 q3 g0 g1 C L) (t,bk) M=x0 at *
 generalize (bilL v q1 q2 q3 g0 g1 C L) (t,!bk) M=x1 at *
 generalize (bilL v q1 q2 q3 g0 g1 C L) (t,bk) (ln-M)=x2 at *
 generalize (atF (bilL v q1 q2 q3 g0 g1 C L) (lnL L) p.1 h me i)=at0 at *
 obtain ⟨d1,d2⟩:=x0
 obtain ⟨d3,d4⟩:=x1
 obtain ⟨d5,d6⟩:=x2
 obtain ⟨⟨a1,a2⟩,⟨a3,a4⟩,a5,a6⟩:=at0
 simp only [addP] at hat k1 k2 k3 k4 k5 k6 HP0 HP1 HP2 m0 m1 m2
 simp only
 refine t_cut (ι:=Unit) (fun _=>[(2,.slice AC nC cC),(6,.pointer (some ⟨b6,0,none⟩)),(7,.pointer (some ⟨b7,0,none⟩)),(11,.pointer (some ⟨b11,0,none⟩)),(12,.pointer (some ⟨b12,0,none⟩)),(13,.pointer (some ⟨b13,0,none⟩)),(28,.slice (some ⟨bR,oR,none⟩) nR cR),(29,.int .i64 ((nR:Nat):Int)),(30,.int .i64 ((i:Nat):Int)),(15,.int .i64 ((x:Nat):Int)),(31,.bool true)]) (fun _=>(b12,[.int .i64 ((a2:Nat):Int),.int .i64 ((a4:Nat):Int),.int .i64 ((a6:Nat):Int)],some (93,3,1))::(b13,[.int .i64 ((a1:Nat):Int),.int .i64 ((a3:Nat):Int),.int .i64 ((a5:Nat):Int)],some (93,3,1))::(b6,[.slice AM m cM,.slice (some ⟨bA,oA,none⟩) n cp],some (25,2,1))::(b7,[.int .i64 v,.int .i64 q1,.int .i64 q2,.int .i64 q3,.int .i64 q4,.int .i64 (g0:Nat),.int .i64 (g1:Nat)],some (29,7,1))::(b11,[.int .i64 (h:Nat),.int .i64 (me:Nat)],some (34,2,1))::[]) (fun _=>True) ?_ ?_
 · repeat' (first|((with_reducible apply oq_id);first|((with_reducible apply oq_lssT);exact rfl;exact rfl;omega))|((with_reducible apply tl_id);first|(with_reducible apply tl_nil)|((with_reducible apply u_q);(iterate 4 exact rfl)))|((with_reducible apply t_id);first|(apply t_region;kernel_rfl)))
   all_goals exact ⟨by trivial,(),trivial,by (repeat first|exact FrSub.nil|(apply FrSub.cons;exact rfl)),by (repeat' (first|exact HpSub.refl _))⟩
 rintro ⟨⟩ -
 refine t_cut (ι:=Unit) (fun _=>[(2,.slice AC nC cC),(6,.pointer (some ⟨b6,0,none⟩)),(7,.pointer (some ⟨b7,0,none⟩)),(11,.pointer (some ⟨b11,0,none⟩)),(12,.pointer (some ⟨b12,0,none⟩)),(13,.pointer (some ⟨b13,0,none⟩)),(28,.slice (some ⟨bR,oR,none⟩) nR cR),(29,.int .i64 ((nR:Nat):Int)),(30,.int .i64 ((i:Nat):Int)),(15,.int .i64 ((x:Nat):Int))]) (fun _=>(b12,[.int .i64 ((a2:Nat):Int),.int .i64 ((a4:Nat):Int),.int .i64 ((a6:Nat):Int)],some (93,3,1))::(b13,[.int .i64 ((a1:Nat):Int),.int .i64 ((a3:Nat):Int),.int .i64 ((a5:Nat):Int)],some (93,3,1))::(b6,[.slice AM m cM,.slice (some ⟨bA,oA,none⟩) n cp],some (25,2,1))::(b7,[.int .i64 v,.int .i64 q1,.int .i64 q2,.int .i64 q3,.int .i64 q4,.int .i64 (g0:Nat),.int .i64 (g1:Nat)],some (29,7,1))::(b11,[.int .i64 (h:Nat),.int .i64 (me:Nat)],some (34,2,1))::[]) (fun _=>True) ?_ ?_
 · repeat' (first|((with_reducible apply t_id);first|((with_reducible apply t_condT);exact rfl)|(with_reducible apply t_skip)))
   all_goals exact ⟨by trivial,(),trivial,by (repeat first|exact FrSub.nil|(apply FrSub.cons;exact rfl)),by (repeat' (first|exact HpSub.refl _))⟩
 rintro ⟨⟩ -
 refine t_cut (ι:=Unit) (fun _=>[(2,.slice AC nC cC),(6,.pointer (some ⟨b6,0,none⟩)),(7,.pointer (some ⟨b7,0,none⟩)),(11,.pointer (some ⟨b11,0,none⟩)),(12,.pointer (some ⟨b12,0,none⟩)),(13,.pointer (some ⟨b13,0,none⟩)),(28,.slice (some ⟨bR,oR,none⟩) nR cR),(29,.int .i64 ((nR:Nat):Int)),(30,.int .i64 ((i:Nat):Int)),(15,.int .i64 ((y:Nat):Int))]) (fun _=>(b12,[.int .i64 ((a2+d2:Nat):Int),.int .i64 ((a4+d4:Nat):Int),.int .i64 ((a6+d6:Nat):Int)],some (93,3,1))::(b13,[.int .i64 ((a1+d1:Nat):Int),.int .i64 ((a3+d3:Nat):Int),.int .i64 ((a5+d5:Nat):Int)],some (93,3,1))::(b6,[.slice AM m cM,.slice (some ⟨bA,oA,none⟩) n cp],some (25,2,1))::(b7,[.int .i64 v,.int .i64 q1,.int .i64 q2,.int .i64 q3,.int .i64 q4,.int .i64 (g0:Nat),.int .i64 (g1:Nat)],some (29,7,1))::(b11,[.int .i64 (h:Nat),.int .i64 (me:Nat)],some (34,2,1))::[]) (fun _=>True) ?_ ?_
 · with_reducible apply t_block
   refine t_cut (ι:=Unit) (fun _=>[(2,.slice AC nC cC),(6,.pointer (some ⟨b6,0,none⟩)),(7,.pointer (some ⟨b7,0,none⟩)),(11,.pointer (some ⟨b11,0,none⟩)),(12,.pointer (some ⟨b12,0,none⟩)),(13,.pointer (some ⟨b13,0,none⟩)),(28,.slice (some ⟨bR,oR,none⟩) nR cR),(29,.int .i64 ((nR:Nat):Int)),(30,.int .i64 ((i:Nat):Int)),(15,.int .i64 ((x:Nat):Int)),(16,.int .i64 ((i:Nat):Int)),(17,.int .i64 ((t:Nat):Int))]) (fun _=>(b12,[.int .i64 ((a2:Nat):Int),.int .i64 ((a4:Nat):Int),.int .i64 ((a6:Nat):Int)],some (93,3,1))::(b13,[.int .i64 ((a1:Nat):Int),.int .i64 ((a3:Nat):Int),.int .i64 ((a5:Nat):Int)],some (93,3,1))::(b6,[.slice AM m cM,.slice (some ⟨bA,oA,none⟩) n cp],some (25,2,1))::(b7,[.int .i64 v,.int .i64 q1,.int .i64 q2,.int .i64 q3,.int .i64 q4,.int .i64 (g0:Nat),.int .i64 (g1:Nat)],some (29,7,1))::(b11,[.int .i64 (h:Nat),.int .i64 (me:Nat)],some (34,2,1))::[]) (fun _=>True) ?_ ?_
   · repeat' (first|((with_reducible apply oq_id);first|(focus ((with_reducible apply oq_indexAddrN (i:=i));(iterate 4 exact rfl);omega))|(apply oq_fn;exact rfl;first|exact trivial|(and_intros<;>omega)|omega|skip)|((with_reducible apply oq_load);exact rfl;exact rfl))|((with_reducible apply tl_id);first|(with_reducible apply tl_nil)|((with_reducible apply u_q);(iterate 4 exact rfl)))|((with_reducible apply rd_id);first|(apply Rd.old;(first|(with_reducible assumption)|exact c0|exact c1|exact c2|exact c3|exact c4|exact c5|exact c6|exact c7|exact c8|exact d0|exact d1|exact d2|exact d3|exact d4|exact d5);first|exact List.not_mem_nil|exact m0|exact m1|exact m2|exact m3|exact m4|exact m5|exact m6|exact m7|exact m8|exact m9))|((with_reducible apply t_id);first|(apply t_region;kernel_rfl)))
     all_goals exact ⟨by trivial,(),trivial,by (repeat first|exact FrSub.nil|(apply FrSub.cons;exact rfl)),by (repeat' (first|exact HpSub.refl _))⟩
   rintro ⟨⟩ -
   refine t_cut (ι:=Unit) (fun _=>[(2,.slice AC nC cC),(6,.pointer (some ⟨b6,0,none⟩)),(7,.pointer (some ⟨b7,0,none⟩)),(11,.pointer (some ⟨b11,0,none⟩)),(12,.pointer (some ⟨b12,0,none⟩)),(13,.pointer (some ⟨b13,0,none⟩)),(28,.slice (some ⟨bR,oR,none⟩) nR cR),(29,.int .i64 ((nR:Nat):Int)),(30,.int .i64 ((i:Nat):Int)),(15,.int .i64 ((x:Nat):Int)),(16,.int .i64 ((i:Nat):Int)),(17,.int .i64 ((t:Nat):Int)),(18,.int .i64 ((ln:Nat):Int)),(19,.int .i64 0)]) (fun _=>(b12,[.int .i64 ((a2:Nat):Int),.int .i64 ((a4:Nat):Int),.int .i64 ((a6:Nat):Int)],some (93,3,1))::(b13,[.int .i64 ((a1:Nat):Int),.int .i64 ((a3:Nat):Int),.int .i64 ((a5:Nat):Int)],some (93,3,1))::(b6,[.slice AM m cM,.slice (some ⟨bA,oA,none⟩) n cp],some (25,2,1))::(b7,[.int .i64 v,.int .i64 q1,.int .i64 q2,.int .i64 q3,.int .i64 q4,.int .i64 (g0:Nat),.int .i64 (g1:Nat)],some (29,7,1))::(b11,[.int .i64 (h:Nat),.int .i64 (me:Nat)],some (34,2,1))::[]) (fun _=>True) ?_ ?_
   · repeat' (first|((with_reducible apply oq_id);first|(apply oq_fn;exact rfl;first|exact trivial|(and_intros<;>omega)|omega|skip)|((with_reducible apply oq_loadAgg);exact rfl;exact rfl)|((with_reducible apply oq_call (hc:=Tryz.call44));exact rfl;exact rfl;exact fun D w1 hw1=>HL w1 hw1.ext.ext))|((with_reducible apply tl_id);first|(with_reducible apply tl_nil)|((with_reducible apply u_q);(iterate 4 exact rfl)))|((with_reducible apply rd_id);first|(apply Rd.own;(repeat first|exact P0|apply P1);exact rfl;done))|((with_reducible apply t_id);first|(apply t_region;kernel_rfl))|exact Rdn.zero|apply Rdn.succ)
     all_goals exact ⟨by trivial,(),trivial,by (repeat first|exact FrSub.nil|(apply FrSub.cons;exact rfl)),by (repeat' (first|exact HpSub.refl _))⟩
   rintro ⟨⟩ -
   refine t_cut (ι:=Unit) (fun _=>[(2,.slice AC nC cC),(6,.pointer (some ⟨b6,0,none⟩)),(7,.pointer (some ⟨b7,0,none⟩)),(11,.pointer (some ⟨b11,0,none⟩)),(12,.pointer (some ⟨b12,0,none⟩)),(13,.pointer (some ⟨b13,0,none⟩)),(28,.slice (some ⟨bR,oR,none⟩) nR cR),(29,.int .i64 ((nR:Nat):Int)),(30,.int .i64 ((i:Nat):Int)),(15,.int .i64 ((x:Nat):Int)),(16,.int .i64 ((i:Nat):Int)),(17,.int .i64 ((t:Nat):Int)),(18,.int .i64 ((ln:Nat):Int))]) (fun _=>(b12,[.int .i64 ((a2:Nat):Int),.int .i64 ((a4:Nat):Int),.int .i64 ((a6:Nat):Int)],some (93,3,1))::(b13,[.int .i64 ((a1:Nat):Int),.int .i64 ((a3:Nat):Int),.int .i64 ((a5:Nat):Int)],some (93,3,1))::(b6,[.slice AM m cM,.slice (some ⟨bA,oA,none⟩) n cp],some (25,2,1))::(b7,[.int .i64 v,.int .i64 q1,.int .i64 q2,.int .i64 q3,.int .i64 q4,.int .i64 (g0:Nat),.int .i64 (g1:Nat)],some (29,7,1))::(b11,[.int .i64 (h:Nat),.int .i64 (me:Nat)],some (34,2,1))::[]) (fun _=>True) ?_ ?_
   · repeat' (first|((with_reducible apply oq_id);first|((with_reducible apply oq_neqF);exact rfl;exact rfl;omega)|((with_reducible apply oq_lssF);exact rfl;exact rfl;omega)|((with_reducible apply oq_geqF);exact rfl;exact rfl;omega)|(apply oq_fn;exact rfl;first|exact trivial|(and_intros<;>omega)|omega|skip)|((with_reducible apply oq_load);exact rfl;exact rfl))|((with_reducible apply tl_id);first|(with_reducible apply tl_nil)|((with_reducible apply u_q);(iterate 4 exact rfl)))|((with_reducible apply rd_id);first|(apply Rd.own;(repeat first|exact P0|apply P1);exact rfl;done))|((with_reducible apply t_id);first|(with_reducible apply t_seq)|(apply t_region;kernel_rfl)|((with_reducible apply t_condF);exact rfl)|(with_reducible apply t_skip))|with_reducible apply q_thenN)
     all_goals exact ⟨by trivial,(),trivial,by (repeat first|exact FrSub.nil|(apply FrSub.cons;exact rfl)),by (repeat' (first|exact HpSub.refl _))⟩
   rintro ⟨⟩ -
   refine t_cut (ι:=Unit) (fun _=>[(2,.slice AC nC cC),(6,.pointer (some ⟨b6,0,none⟩)),(7,.pointer (some ⟨b7,0,none⟩)),(11,.pointer (some ⟨b11,0,none⟩)),(12,.pointer (some ⟨b12,0,none⟩)),(13,.pointer (some ⟨b13,0,none⟩)),(28,.slice (some ⟨bR,oR,none⟩) nR cR),(29,.int .i64 ((nR:Nat):Int)),(30,.int .i64 ((i:Nat):Int)),(15,.int .i64 ((x:Nat):Int)),(16,.int .i64 ((i:Nat):Int)),(17,.int .i64 ((t:Nat):Int)),(18,.int .i64 ((ln:Nat):Int)),(20,.int .i64 0)]) (fun _=>(b12,[.int .i64 ((a2:Nat):Int),.int .i64 ((a4:Nat):Int),.int .i64 ((a6:Nat):Int)],some (93,3,1))::(b13,[.int .i64 ((a1:Nat):Int),.int .i64 ((a3:Nat):Int),.int .i64 ((a5:Nat):Int)],some (93,3,1))::(b6,[.slice AM m cM,.slice (some ⟨bA,oA,none⟩) n cp],some (25,2,1))::(b7,[.int .i64 v,.int .i64 q1,.int .i64 q2,.int .i64 q3,.int .i64 q4,.int .i64 (g0:Nat),.int .i64 (g1:Nat)],some (29,7,1))::(b11,[.int .i64 (h:Nat),.int .i64 (me:Nat)],some (34,2,1))::[]) (fun _=>True) ?_ ?_
   · repeat' (first|((with_reducible apply oq_id);first|(apply oq_fn;exact rfl;first|exact trivial|(and_intros<;>omega)|omega|skip))|((with_reducible apply tl_id);first|(with_reducible apply tl_nil)|((with_reducible apply u_q);(iterate 4 exact rfl)))|((with_reducible apply t_id);first|(apply t_region;kernel_rfl)))
     all_goals exact ⟨by trivial,(),trivial,by (repeat first|exact FrSub.nil|(apply FrSub.cons;exact rfl)),by (repeat' (first|exact HpSub.refl _))⟩
   rintro ⟨⟩ -
   refine t_cut (ι:=Unit) (fun _=>[(2,.slice AC nC cC),(6,.pointer (some ⟨b6,0,none⟩)),(7,.pointer (some ⟨b7,0,none⟩)),(11,.pointer (some ⟨b11,0,none⟩)),(12,.pointer (some ⟨b12,0,none⟩)),(13,.pointer (some ⟨b13,0,none⟩)),(28,.slice (some ⟨bR,oR,none⟩) nR cR),(29,.int .i64 ((nR:Nat):Int)),(30,.int .i64 ((i:Nat):Int)),(15,.int .i64 ((x:Nat):Int)),(16,.int .i64 ((i:Nat):Int)),(17,.int .i64 ((t:Nat):Int)),(18,.int .i64 ((ln:Nat):Int)),(20,.int .i64 ((if i<h then ln else 0:Nat):Int))]) (fun _=>(b12,[.int .i64 ((a2:Nat):Int),.int .i64 ((a4:Nat):Int),.int .i64 ((a6:Nat):Int)],some (93,3,1))::(b13,[.int .i64 ((a1:Nat):Int),.int .i64 ((a3:Nat):Int),.int .i64 ((a5:Nat):Int)],some (93,3,1))::(b6,[.slice AM m cM,.slice (some ⟨bA,oA,none⟩) n cp],some (25,2,1))::(b7,[.int .i64 v,.int .i64 q1,.int .i64 q2,.int .i64 q3,.int .i64 q4,.int .i64 (g0:Nat),.int .i64 (g1:Nat)],some (29,7,1))::(b11,[.int .i64 (h:Nat),.int .i64 (me:Nat)],some (34,2,1))::[]) (fun _=>True) ?_ ?_
   · by_cases hih:i<h
     · rw [if_pos hih]
       repeat' (first|((with_reducible apply oq_id);first|((with_reducible apply oq_lssT);exact rfl;exact rfl;omega)|(apply oq_fn;exact rfl;first|exact trivial|(and_intros<;>omega)|omega|skip)|((with_reducible apply oq_load);exact rfl;exact rfl))|((with_reducible apply tl_id);first|(with_reducible apply tl_nil)|((with_reducible apply u_q);(iterate 4 exact rfl)))|((with_reducible apply rd_id);first|(apply Rd.own;(repeat first|exact P0|apply P1);exact rfl;done))|((with_reducible apply t_id);first|(with_reducible apply t_seq)|(apply t_region;kernel_rfl)|((with_reducible apply t_condT);exact rfl))|with_reducible apply q_thenN)
       all_goals exact ⟨by trivial,(),trivial,by (repeat first|exact FrSub.nil|(apply FrSub.cons;exact rfl)),by (repeat' (first|exact HpSub.refl _))⟩
     · rw [if_neg hih]
       repeat' (first|((with_reducible apply oq_id);first|((with_reducible apply oq_lssF);exact rfl;exact rfl;omega)|(apply oq_fn;exact rfl;first|exact trivial|(and_intros<;>omega)|omega|skip)|((with_reducible apply oq_load);exact rfl;exact rfl))|((with_reducible apply tl_id);first|(with_reducible apply tl_nil)|((with_reducible apply u_q);(iterate 4 exact rfl)))|((with_reducible apply rd_id);first|(apply Rd.own;(repeat first|exact P0|apply P1);exact rfl;done))|((with_reducible apply t_id);first|(with_reducible apply t_seq)|(apply t_region;kernel_rfl)|((with_reducible apply t_condF);exact rfl)|(with_reducible apply t_skip))|with_reducible apply q_thenN)
       all_goals exact ⟨by trivial,(),trivial,by (repeat first|exact FrSub.nil|(apply FrSub.cons;exact rfl)),by (repeat' (first|exact HpSub.refl _))⟩
   rintro ⟨⟩ -
   refine t_cut (ι:=Unit) (fun _=>[(2,.slice AC nC cC),(6,.pointer (some ⟨b6,0,none⟩)),(7,.pointer (some ⟨b7,0,none⟩)),(11,.pointer (some ⟨b11,0,none⟩)),(12,.pointer (some ⟨b12,0,none⟩)),(13,.pointer (some ⟨b13,0,none⟩)),(28,.slice (some ⟨bR,oR,none⟩) nR cR),(29,.int .i64 ((nR:Nat):Int)),(30,.int .i64 ((i:Nat):Int)),(15,.int .i64 ((x:Nat):Int)),(16,.int .i64 ((i:Nat):Int)),(17,.int .i64 ((t:Nat):Int)),(18,.int .i64 ((ln:Nat):Int)),(20,.int .i64 ((M:Nat):Int))]) (fun _=>(b12,[.int .i64 ((a2:Nat):Int),.int .i64 ((a4:Nat):Int),.int .i64 ((a6:Nat):Int)],some (93,3,1))::(b13,[.int .i64 ((a1:Nat):Int),.int .i64 ((a3:Nat):Int),.int .i64 ((a5:Nat):Int)],some (93,3,1))::(b6,[.slice AM m cM,.slice (some ⟨bA,oA,none⟩) n cp],some (25,2,1))::(b7,[.int .i64 v,.int .i64 q1,.int .i64 q2,.int .i64 q3,.int .i64 q4,.int .i64 (g0:Nat),.int .i64 (g1:Nat)],some (29,7,1))::(b11,[.int .i64 (h:Nat),.int .i64 (me:Nat)],some (34,2,1))::[]) (fun _=>True) ?_ ?_
   · rcases hMc with ⟨hih,rfl⟩|⟨hih,rfl⟩|⟨hih,rfl⟩
     · rw [if_pos hih]
       repeat' (first|((with_reducible apply oq_id);first|((with_reducible apply oq_eqlF);exact rfl;exact rfl;omega)|(apply oq_fn;exact rfl;first|exact trivial|(and_intros<;>omega)|omega|skip)|((with_reducible apply oq_load);exact rfl;exact rfl))|((with_reducible apply tl_id);first|(with_reducible apply tl_nil)|((with_reducible apply u_q);(iterate 4 exact rfl)))|((with_reducible apply rd_id);first|(apply Rd.own;(repeat first|exact P0|apply P1);exact rfl;done))|((with_reducible apply t_id);first|(with_reducible apply t_seq)|(apply t_region;kernel_rfl)|((with_reducible apply t_condF);exact rfl)|(with_reducible apply t_skip))|with_reducible apply q_thenN)
       all_goals exact ⟨by trivial,(),trivial,by (repeat first|exact FrSub.nil|(apply FrSub.cons;exact rfl)),by (repeat' (first|exact HpSub.refl _))⟩
     · repeat' (first|((with_reducible apply oq_id);first|((with_reducible apply oq_eqlT);exact rfl;exact rfl;omega)|(apply oq_fn;exact rfl;first|exact trivial|(and_intros<;>omega)|omega|skip)|((with_reducible apply oq_load);exact rfl;exact rfl))|((with_reducible apply tl_id);first|(with_reducible apply tl_nil)|((with_reducible apply u_q);(iterate 4 exact rfl)))|((with_reducible apply rd_id);first|(apply Rd.own;(repeat first|exact P0|apply P1);exact rfl;done))|((with_reducible apply t_id);first|(with_reducible apply t_seq)|(apply t_region;kernel_rfl)|((with_reducible apply t_condT);exact rfl))|with_reducible apply q_thenN)
       all_goals exact ⟨by trivial,(),trivial,by (repeat first|exact FrSub.nil|(apply FrSub.cons;exact rfl)),by (repeat' (first|exact HpSub.refl _))⟩
     · rw [if_neg (by omega)]
       repeat' (first|((with_reducible apply oq_id);first|((with_reducible apply oq_eqlF);exact rfl;exact rfl;omega)|(apply oq_fn;exact rfl;first|exact trivial|(and_intros<;>omega)|omega|skip)|((with_reducible apply oq_load);exact rfl;exact rfl))|((with_reducible apply tl_id);first|(with_reducible apply tl_nil)|((with_reducible apply u_q);(iterate 4 exact rfl)))|((with_reducible apply rd_id);first|(apply Rd.own;(repeat first|exact P0|apply P1);exact rfl;done))|((with_reducible apply t_id);first|(with_reducible apply t_seq)|(apply t_region;kernel_rfl)|((with_reducible apply t_condF);exact rfl)|(with_reducible apply t_skip))|with_reducible apply q_thenN)
       all_goals exact ⟨by trivial,(),trivial,by (repeat first|exact FrSub.nil|(apply FrSub.cons;exact rfl)),by (repeat' (first|exact HpSub.refl _))⟩
   rintro ⟨⟩ -
   refine t_cut (ι:=Unit) (fun _=>[(2,.slice AC nC cC),(6,.pointer (some ⟨b6,0,none⟩)),(7,.pointer (some ⟨b7,0,none⟩)),(11,.pointer (some ⟨b11,0,none⟩)),(12,.pointer (some ⟨b12,0,none⟩)),(13,.pointer (some ⟨b13,0,none⟩)),(28,.slice (some ⟨bR,oR,none⟩) nR cR),(29,.int .i64 ((nR:Nat):Int)),(30,.int .i64 ((i:Nat):Int)),(15,.int .i64 ((x:Nat):Int)),(16,.int .i64 ((i:Nat):Int)),(17,.int .i64 ((t:Nat):Int)),(18,.int .i64 ((ln:Nat):Int)),(20,.int .i64 ((M:Nat):Int)),(21,.bool bk)]) (fun _=>(b12,[.int .i64 ((a2:Nat):Int),.int .i64 ((a4:Nat):Int),.int .i64 ((a6:Nat):Int)],some (93,3,1))::(b13,[.int .i64 ((a1:Nat):Int),.int .i64 ((a3:Nat):Int),.int .i64 ((a5:Nat):Int)],some (93,3,1))::(b6,[.slice AM m cM,.slice (some ⟨bA,oA,none⟩) n cp],some (25,2,1))::(b7,[.int .i64 v,.int .i64 q1,.int .i64 q2,.int .i64 q3,.int .i64 q4,.int .i64 (g0:Nat),.int .i64 (g1:Nat)],some (29,7,1))::(b11,[.int .i64 (h:Nat),.int .i64 (me:Nat)],some (34,2,1))::[]) (fun _=>True) ?_ ?_
   · rcases e6 with ⟨rfl,f1,f2⟩|⟨rfl,f0,f1,f2⟩
     · repeat' (first|((with_reducible apply oq_id);first|(focus ((with_reducible apply oq_indexAddrN (i:=t));(iterate 4 exact rfl);omega))|((with_reducible apply oq_eqlF);exact rfl;exact rfl;omega)|(apply oq_fn;exact rfl;first|exact trivial|(and_intros<;>omega)|omega|skip)|((with_reducible apply oq_load);exact rfl;exact rfl))|((with_reducible apply tl_id);first|(with_reducible apply tl_nil)|((with_reducible apply u_q);(iterate 4 exact rfl)))|((with_reducible apply rd_id);first|(apply Rd.own;(repeat first|exact P0|apply P1);exact rfl;done)|(apply Rd.old;(first|(with_reducible assumption)|exact c0|exact c1|exact c2|exact c3|exact c4|exact c5|exact c6|exact c7|exact c8|exact d0|exact d1|exact d2|exact d3|exact d4|exact d5);first|exact List.not_mem_nil|exact m0|exact m1|exact m2|exact m3|exact m4|exact m5|exact m6|exact m7|exact m8|exact m9))|((with_reducible apply t_id);first|(apply t_region;kernel_rfl)))
       all_goals exact ⟨by trivial,(),trivial,by (repeat first|exact FrSub.nil|(apply FrSub.cons;exact rfl)),by (repeat' (first|exact HpSub.refl _))⟩
     · repeat' (first|((with_reducible apply oq_id);first|(focus ((with_reducible apply oq_indexAddrN (i:=t));(iterate 4 exact rfl);omega))|((with_reducible apply oq_eqlT);exact rfl;exact rfl;omega)|(apply oq_fn;exact rfl;first|exact trivial|(and_intros<;>omega)|omega|skip)|((with_reducible apply oq_load);exact rfl;exact rfl))|((with_reducible apply tl_id);first|(with_reducible apply tl_nil)|((with_reducible apply u_q);(iterate 4 exact rfl)))|((with_reducible apply rd_id);first|(apply Rd.own;(repeat first|exact P0|apply P1);exact rfl;done)|(apply Rd.old;(first|(with_reducible assumption)|exact c0|exact c1|exact c2|exact c3|exact c4|exact c5|exact c6|exact c7|exact c8|exact d0|exact d1|exact d2|exact d3|exact d4|exact d5);first|exact List.not_mem_nil|exact m0|exact m1|exact m2|exact m3|exact m4|exact m5|exact m6|exact m7|exact m8|exact m9))|((with_reducible apply t_id);first|(apply t_region;kernel_rfl)))
       all_goals exact ⟨by trivial,(),trivial,by (repeat first|exact FrSub.nil|(apply FrSub.cons;exact rfl)),by (repeat' (first|exact HpSub.refl _))⟩
   rintro ⟨⟩ -
   refine t_cut (ι:=Unit) (fun _=>[(2,.slice AC nC cC),(6,.pointer (some ⟨b6,0,none⟩)),(7,.pointer (some ⟨b7,0,none⟩)),(11,.pointer (some ⟨b11,0,none⟩)),(12,.pointer (some ⟨b12,0,none⟩)),(13,.pointer (some ⟨b13,0,none⟩)),(28,.slice (some ⟨bR,oR,none⟩) nR cR),(29,.int .i64 ((nR:Nat):Int)),(30,.int .i64 ((i:Nat):Int)),(15,.int .i64 ((x:Nat):Int)),(16,.int .i64 ((i:Nat):Int)),(17,.int .i64 ((t:Nat):Int))]) (fun _=>(b12,[.int .i64 ((a2+d2:Nat):Int),.int .i64 ((a4+d4:Nat):Int),.int .i64 ((a6+d6:Nat):Int)],some (93,3,1))::(b13,[.int .i64 ((a1+d1:Nat):Int),.int .i64 ((a3+d3:Nat):Int),.int .i64 ((a5+d5:Nat):Int)],some (93,3,1))::(b6,[.slice AM m cM,.slice (some ⟨bA,oA,none⟩) n cp],some (25,2,1))::(b7,[.int .i64 v,.int .i64 q1,.int .i64 q2,.int .i64 q3,.int .i64 q4,.int .i64 (g0:Nat),.int .i64 (g1:Nat)],some (29,7,1))::(b11,[.int .i64 (h:Nat),.int .i64 (me:Nat)],some (34,2,1))::[]) (fun _=>True) ?_ ?_
   · repeat' (first|((with_reducible apply oq_id);first|(focus ((with_reducible apply (oq_subE (k:=((ln-M:Nat):Int))));exact rfl;exact rfl;omega))|(apply oq_fn;exact rfl;first|exact trivial|(and_intros<;>omega)|omega|skip)|((with_reducible apply oq_build);(iterate 3 exact rfl)))|((with_reducible apply tl_id);first|(with_reducible apply tl_nil)|((with_reducible apply u_q);(iterate 4 exact rfl))|((with_reducible apply u_s);(iterate 3 exact rfl)))|((with_reducible apply os_id);first|((with_reducible apply os_x);exact rfl))|((with_reducible apply ox_id);first|((with_reducible apply ox_buildSlice2);(iterate 6 exact rfl);intro _))|((with_reducible apply t_id);first|(with_reducible apply t_seq)|(apply t_region;kernel_rfl)|(with_reducible apply t_block))|with_reducible apply q_thenN|((with_reducible apply Norm.nil);exact rfl)|((with_reducible apply Norm.cons);exact rfl))
     rename_i b87
     apply t_loopP (ι:=Nat) [2,6,7,11,12,13,15,16,17,28,29,30,87,88] (fun k=>[(89,.int .i64 ((k:Nat):Int))]) (fun k=>(b12,bl3 a2 (a2+d2) a4 (a4+d4) a6 (a6+d6) k,some (93,3,1))::(b13,bl3 a1 (a1+d1) a3 (a3+d3) a5 (a5+d5) k,some (93,3,1))::(b87,[.bool bk,.int .i64 ((M:Nat):Int),.bool (!bk),.int .i64 ((M:Nat):Int),.bool bk,.int .i64 ((ln-M:Nat):Int)],some (168,2,3))::(b6,[.slice AM m cM,.slice (some ⟨bA,oA,none⟩) n cp],some (25,2,1))::(b7,[.int .i64 v,.int .i64 q1,.int .i64 q2,.int .i64 q3,.int .i64 q4,.int .i64 (g0:Nat),.int .i64 (g1:Nat)],some (29,7,1))::(b11,[.int .i64 (h:Nat),.int .i64 (me:Nat)],some (34,2,1))::[]) (fun k=>k≤3) (fun k=>3-k) (0)
     (repeat (first|exact KeepF.nil|(apply KeepF.cons;exact rfl)|apply KeepF.skip))
     (repeat first|exact FrSub.nil|(apply FrSub.cons;exact rfl))
     (try simp only [List.cons_append,List.nil_append])
     (repeat' (first|exact HpSub.refl _|(apply HpSub.consE;(repeat first|exact P0|apply P1);first|exact rfl|skip)))
     · exact Nat.zero_le _
     rintro k hk3
     try simp only [List.cons_append,List.nil_append]
     by_cases hk2:k<3
     rotate_left
     · have hk:k=3:=by omega
       subst hk
       simp only [bl3]
       repeat' (first|((with_reducible apply oq_id);first|((with_reducible apply oq_lssF);exact rfl;exact rfl;omega))|((with_reducible apply tl_id);first|(with_reducible apply tl_nil)|((with_reducible apply u_q);(iterate 4 exact rfl)))|((with_reducible apply t_id);first|(with_reducible apply t_seq)|(apply t_region;kernel_rfl)|((with_reducible apply t_condF);exact rfl)|(with_reducible apply t_exit))|with_reducible apply q_thenN|with_reducible apply q_thenE|((with_reducible apply q_blockE);exact rfl))
       all_goals exact ⟨by trivial,(),trivial,by (repeat first|exact FrSub.nil|(apply FrSub.cons;exact rfl)),by (repeat' (first|exact HpSub.refl _|(apply HpSub.consE;(repeat first|exact P0|apply P1);first|exact rfl|(simp;done))|apply HpSub.skipX))⟩
     by_cases hk0':k=0
     · have hk:k=0:=by omega
       subst hk
       simp only [bl3]
       repeat' (first|((with_reducible apply oq_id);first|(focus ((with_reducible apply oq_indexAddrN (i:=0));(iterate 4 exact rfl);omega))|(focus ((with_reducible apply (oq_addE (k:=((a1+d1:Nat):Int))));exact rfl;exact rfl;omega))|(focus ((with_reducible apply (oq_addE (k:=((a2+d2:Nat):Int))));exact rfl;exact rfl;omega))|((with_reducible apply oq_lssT);exact rfl;exact rfl;omega)|((with_reducible apply oq_neqF);exact rfl;exact rfl;omega)|(apply oq_fn;exact rfl;first|exact trivial|(and_intros<;>omega)|omega|skip)|((with_reducible apply oq_load);exact rfl;exact rfl)|((with_reducible apply oq_loadAgg);exact rfl;exact rfl)|((with_reducible apply oq_call (hc:=Tryz.call37));exact rfl;exact rfl;exact fun D w1 hw1=>HP0 w1 hw1.ext.ext))|((with_reducible apply tl_id);first|(with_reducible apply tl_nil)|((with_reducible apply u_q);(iterate 4 exact rfl))|((with_reducible apply u_s0);exact rfl;exact rfl)|((with_reducible apply u_s);(iterate 3 exact rfl)))|((with_reducible apply gx_id);first|(with_reducible apply v_nil)|((with_reducible apply v_q);(iterate 3 exact rfl)))|((with_reducible apply os_id);first|((with_reducible apply os_x);exact rfl)|((with_reducible apply os_store);(iterate 4 exact rfl))|((with_reducible apply os_storeAgg);(iterate 5 exact rfl)))|((with_reducible apply ox_id);first|((with_reducible apply ox_alloc);exact rfl;intro _))|((with_reducible apply ai_id);first|((with_reducible apply ai_s0);(iterate 4 exact rfl)))|((with_reducible apply rd_id);first|(apply Rd.own;(repeat first|exact P0|apply P1);exact rfl;done))|((with_reducible apply t_id);first|(apply t_mix (id:=20) [0,1,2,3,4,5,6] 1 #[false,false,false,false,false,false,false,true];kernel_rfl;kernel_rfl;exact rfl)|(apply t_mix (id:=21) [0,1,2,3,4,5,6] 1 #[false,false,false,false,false,false,false,true];kernel_rfl;kernel_rfl;exact rfl)|(with_reducible apply t_seq)|(apply t_region;kernel_rfl)|((with_reducible apply t_condT);exact rfl)|((with_reducible apply t_condF);exact rfl)|(with_reducible apply t_skip)|(with_reducible apply t_block))|with_reducible apply q_thenN|with_reducible apply q_blockN|exact P0|(with_reducible apply P1)|exact Rdn.zero|apply Rdn.succ|((with_reducible apply Norm.nil);exact rfl)|((with_reducible apply Norm.cons);exact rfl)|((with_reducible apply al_id);first|(apply al_done;decide +kernel)|(apply al_one 7;decide +kernel))|exact Nat.le_of_ble_eq_true rfl)
       all_goals (refine ⟨0+1,by omega,by omega,?_,?_⟩<;>(repeat' (first|exact FrSub.nil|(apply FrSub.cons;exact rfl)|exact HpSub.refl _|(apply HpSub.consE;(repeat first|exact P0|apply P1);first|exact rfl|skip)|apply HpSub.skipX)))
     by_cases hk1':k=1
     · have hk:k=1:=by omega
       subst hk
       simp only [bl3]
       repeat' (first|((with_reducible apply oq_id);first|(focus ((with_reducible apply oq_indexAddrN (i:=1));(iterate 4 exact rfl);omega))|(focus ((with_reducible apply (oq_addE (k:=((a3+d3:Nat):Int))));exact rfl;exact rfl;omega))|(focus ((with_reducible apply (oq_addE (k:=((a4+d4:Nat):Int))));exact rfl;exact rfl;omega))|((with_reducible apply oq_lssT);exact rfl;exact rfl;omega)|((with_reducible apply oq_neqF);exact rfl;exact rfl;omega)|(apply oq_fn;exact rfl;first|exact trivial|(and_intros<;>omega)|omega|skip)|((with_reducible apply oq_load);exact rfl;exact rfl)|((with_reducible apply oq_loadAgg);exact rfl;exact rfl)|((with_reducible apply oq_call (hc:=Tryz.call37));exact rfl;exact rfl;exact fun D w1 hw1=>HP1 w1 hw1.ext.ext))|((with_reducible apply tl_id);first|(with_reducible apply tl_nil)|((with_reducible apply u_q);(iterate 4 exact rfl))|((with_reducible apply u_s0);exact rfl;exact rfl)|((with_reducible apply u_s);(iterate 3 exact rfl)))|((with_reducible apply gx_id);first|(with_reducible apply v_nil)|((with_reducible apply v_q);(iterate 3 exact rfl)))|((with_reducible apply os_id);first|((with_reducible apply os_x);exact rfl)|((with_reducible apply os_store);(iterate 4 exact rfl))|((with_reducible apply os_storeAgg);(iterate 5 exact rfl)))|((with_reducible apply ox_id);first|((with_reducible apply ox_alloc);exact rfl;intro _))|((with_reducible apply ai_id);first|((with_reducible apply ai_s0);(iterate 4 exact rfl)))|((with_reducible apply rd_id);first|(apply Rd.own;(repeat first|exact P0|apply P1);exact rfl;done))|((with_reducible apply t_id);first|(apply t_mix (id:=20) [0,1,2,3,4,5,6] 1 #[false,false,false,false,false,false,false,true];kernel_rfl;kernel_rfl;exact rfl)|(apply t_mix (id:=21) [0,1,2,3,4,5,6] 1 #[false,false,false,false,false,false,false,true];kernel_rfl;kernel_rfl;exact rfl)|(with_reducible apply t_seq)|(apply t_region;kernel_rfl)|((with_reducible apply t_condT);exact rfl)|((with_reducible apply t_condF);exact rfl)|(with_reducible apply t_skip)|(with_reducible apply t_block))|with_reducible apply q_thenN|with_reducible apply q_blockN|exact P0|(with_reducible apply P1)|exact Rdn.zero|apply Rdn.succ|((with_reducible apply Norm.nil);exact rfl)|((with_reducible apply Norm.cons);exact rfl)|((with_reducible apply al_id);first|(apply al_done;decide +kernel)|(apply al_one 7;decide +kernel))|exact Nat.le_of_ble_eq_true rfl)
       all_goals (refine ⟨1+1,by omega,by omega,?_,?_⟩<;>(repeat' (first|exact FrSub.nil|(apply FrSub.cons;exact rfl)|exact HpSub.refl _|(apply HpSub.consE;(repeat first|exact P0|apply P1);first|exact rfl|skip)|apply HpSub.skipX)))
     · have hk:k=2:=by omega
       subst hk
       simp only [bl3]
       repeat' (first|((with_reducible apply oq_id);first|(focus ((with_reducible apply oq_indexAddrN (i:=2));(iterate 4 exact rfl);omega))|(focus ((with_reducible apply (oq_addE (k:=((a5+d5:Nat):Int))));exact rfl;exact rfl;omega))|(focus ((with_reducible apply (oq_addE (k:=((a6+d6:Nat):Int))));exact rfl;exact rfl;omega))|((with_reducible apply oq_lssT);exact rfl;exact rfl;omega)|((with_reducible apply oq_neqF);exact rfl;exact rfl;omega)|(apply oq_fn;exact rfl;first|exact trivial|(and_intros<;>omega)|omega|skip)|((with_reducible apply oq_load);exact rfl;exact rfl)|((with_reducible apply oq_loadAgg);exact rfl;exact rfl)|((with_reducible apply oq_call (hc:=Tryz.call37));exact rfl;exact rfl;exact fun D w1 hw1=>HP2 w1 hw1.ext.ext))|((with_reducible apply tl_id);first|(with_reducible apply tl_nil)|((with_reducible apply u_q);(iterate 4 exact rfl))|((with_reducible apply u_s0);exact rfl;exact rfl)|((with_reducible apply u_s);(iterate 3 exact rfl)))|((with_reducible apply gx_id);first|(with_reducible apply v_nil)|((with_reducible apply v_q);(iterate 3 exact rfl)))|((with_reducible apply os_id);first|((with_reducible apply os_x);exact rfl)|((with_reducible apply os_store);(iterate 4 exact rfl))|((with_reducible apply os_storeAgg);(iterate 5 exact rfl)))|((with_reducible apply ox_id);first|((with_reducible apply ox_alloc);exact rfl;intro _))|((with_reducible apply ai_id);first|((with_reducible apply ai_s0);(iterate 4 exact rfl)))|((with_reducible apply rd_id);first|(apply Rd.own;(repeat first|exact P0|apply P1);exact rfl;done))|((with_reducible apply t_id);first|(apply t_mix (id:=20) [0,1,2,3,4,5,6] 1 #[false,false,false,false,false,false,false,true];kernel_rfl;kernel_rfl;exact rfl)|(apply t_mix (id:=21) [0,1,2,3,4,5,6] 1 #[false,false,false,false,false,false,false,true];kernel_rfl;kernel_rfl;exact rfl)|(with_reducible apply t_seq)|(apply t_region;kernel_rfl)|((with_reducible apply t_condT);exact rfl)|((with_reducible apply t_condF);exact rfl)|(with_reducible apply t_skip)|(with_reducible apply t_block))|with_reducible apply q_thenN|with_reducible apply q_blockN|exact P0|(with_reducible apply P1)|exact Rdn.zero|apply Rdn.succ|((with_reducible apply Norm.nil);exact rfl)|((with_reducible apply Norm.cons);exact rfl)|((with_reducible apply al_id);first|(apply al_done;decide +kernel)|(apply al_one 7;decide +kernel))|exact Nat.le_of_ble_eq_true rfl)
       all_goals (refine ⟨2+1,by omega,by omega,?_,?_⟩<;>(repeat' (first|exact FrSub.nil|(apply FrSub.cons;exact rfl)|exact HpSub.refl _|(apply HpSub.consE;(repeat first|exact P0|apply P1);first|exact rfl|skip)|apply HpSub.skipX)))
   rintro ⟨⟩ -
   rcases e6 with ⟨rfl,f1,f2⟩|⟨rfl,f0,f1,f2⟩
   · repeat' (first|((with_reducible apply oq_id);first|(focus ((with_reducible apply oq_indexAddrN (i:=t));(iterate 4 exact rfl);omega))|(focus ((with_reducible apply (oq_subE (k:=((y:Nat):Int))));exact rfl;exact rfl;omega))|(apply oq_fn;exact rfl;first|exact trivial|(and_intros<;>omega)|omega|skip)|((with_reducible apply oq_load);exact rfl;exact rfl))|((with_reducible apply gx_id);first|(with_reducible apply v_nil)|((with_reducible apply v_q);(iterate 3 exact rfl)))|((with_reducible apply rd_id);first|(apply Rd.own;(repeat first|exact P0|apply P1);exact rfl;done)|(apply Rd.old;(first|(with_reducible assumption)|exact c0|exact c1|exact c2|exact c3|exact c4|exact c5|exact c6|exact c7|exact c8|exact d0|exact d1|exact d2|exact d3|exact d4|exact d5);first|exact List.not_mem_nil|exact m0|exact m1|exact m2|exact m3|exact m4|exact m5|exact m6|exact m7|exact m8|exact m9))|((with_reducible apply t_id);first|(apply t_drawn;kernel_rfl;decide +kernel;try simp only [List.append_eq,List.cons_append,List.nil_append]))|with_reducible apply q_blockN)
     all_goals exact ⟨by trivial,(),trivial,by (repeat first|exact FrSub.nil|(apply FrSub.cons;exact rfl)),by (repeat' (first|exact HpSub.refl _))⟩
   · repeat' (first|((with_reducible apply oq_id);first|(focus ((with_reducible apply oq_indexAddrN (i:=t));(iterate 4 exact rfl);omega))|(focus ((with_reducible apply (oq_subE (k:=((y:Nat):Int))));exact rfl;exact rfl;omega))|(apply oq_fn;exact rfl;first|exact trivial|(and_intros<;>omega)|omega|skip)|((with_reducible apply oq_load);exact rfl;exact rfl))|((with_reducible apply gx_id);first|(with_reducible apply v_nil)|((with_reducible apply v_q);(iterate 3 exact rfl)))|((with_reducible apply rd_id);first|(apply Rd.own;(repeat first|exact P0|apply P1);exact rfl;done)|(apply Rd.old;(first|(with_reducible assumption)|exact c0|exact c1|exact c2|exact c3|exact c4|exact c5|exact c6|exact c7|exact c8|exact d0|exact d1|exact d2|exact d3|exact d4|exact d5);first|exact List.not_mem_nil|exact m0|exact m1|exact m2|exact m3|exact m4|exact m5|exact m6|exact m7|exact m8|exact m9))|((with_reducible apply t_id);first|(apply t_drawn;kernel_rfl;decide +kernel;try simp only [List.append_eq,List.cons_append,List.nil_append]))|with_reducible apply q_blockN)
     all_goals exact ⟨by trivial,(),trivial,by (repeat first|exact FrSub.nil|(apply FrSub.cons;exact rfl)),by (repeat' (first|exact HpSub.refl _))⟩
 rintro ⟨⟩ -
 repeat' (first|((with_reducible apply oq_id);first|(apply oq_fn;exact rfl;first|exact trivial|(and_intros<;>omega)|omega|skip))|((with_reducible apply tl_id);first|(with_reducible apply tl_nil)|((with_reducible apply u_q);(iterate 4 exact rfl)))|((with_reducible apply t_id);first|(apply t_region;kernel_rfl))|with_reducible apply q_thenN)
 all_goals (refine ⟨i+1,by omega,by omega,?_,?_⟩<;>(try rw [hat])<;>(try rw [hyi])<;>(repeat' (first|exact FrSub.nil|(apply FrSub.cons;exact rfl)|exact HpSub.refl _)))
end Go.Proofs.YtcjkndjjbjoehaaGreat
namespace Go.Proofs.YtcjkndjjbjoehaaGreat
open Go.RowKit
section
variable {bil:Nat×Bool→Nat→Nat×Nat} {ln:Nat→Nat} {g:List (Nat×Bool)} {Pd:Nat×Nat→Nat×Nat→Nat×Nat→Bool}
theorem at_zero (h0:∀ x,bil x 0=(0,0)):∀ k,(atF bil ln g 0 0 k).1=(0,0)∧(atF bil ln g 0 0 k).2.1=(0,0)
 | 0=>⟨rfl,rfl⟩
 | k+1=>by
   obtain ⟨i1,i2⟩:=at_zero h0 k
   simp only [atF]
   split
   · exact ⟨i1,i2⟩
   · rename_i x hx
     have e:atM (ln x.1) 0 0 k=0:=by unfold atM;split<;>(try split)<;>first|rfl|omega
     rw [e,i1,i2,h0,h0]
     exact ⟨rfl,rfl⟩
def nxP (ln:Nat→Nat) (n:Nat) (x:Nat×Nat):Option (Nat×Nat):=if x.2<ln x.1 then some (x.1,x.2+1) else if x.1+1<n then some (x.1+1,0) else none
theorem las_inv {op:Bool} {hp:Nat→Nat→Bool} {lg:Nat→Nat} (ha:AntiP hp lg g.length) {x:Nat×Nat} {e:Int} (h:lasR g op hp lg=(x,e)):(e=2∧x=(0,0))∨(e=63∧x=(0,0))∨(e=64∧x=(0,0)∧0<g.length∧hp 0 0=false)∨(e=0∧op=true∧x.1<g.length∧x.2≤lg x.1∧hp x.1 x.2=true∧(∀ y,nxP lg g.length x=some y→hp y.1 y.2=false)∧(∀ m',x.2<m'→m'≤lg x.1→hp x.1 m'=false)∧∀ i m',x.1<i→i<g.length→m'≤lg i→hp i m'=false):=by
 unfold lasR at h
 split at h
 · obtain ⟨rfl,rfl⟩:=Prod.mk.inj h
   exact .inl ⟨rfl,rfl⟩
 rename_i hg
 have hg0:0<g.length:=by cases g with|nil=>exact absurd rfl hg|cons=>simp
 split at h
 · obtain ⟨rfl,rfl⟩:=Prod.mk.inj h
   exact .inr (.inl ⟨rfl,rfl⟩)
 rename_i ho
 split at h
 · rename_i hl
   obtain ⟨rfl,rfl⟩:=Prod.mk.inj h
   exact .inr (.inr (.inl ⟨rfl,rfl,hg0,lstP_none _ hl 0 hg0⟩))
 · rename_i y hl
   obtain ⟨rfl,rfl⟩:=Prod.mk.inj h
   obtain ⟨k1,k2,k3,k4,k5⟩:=lstP_some _ ha y.1 y.2 hl
   refine .inr (.inr (.inr ⟨rfl,by simpa using ho,k1,k2,k3,fun w hw=>?_,k4,k5⟩))
   unfold nxP at hw
   split at hw
   · rename_i hlt
     obtain rfl:=Option.some.inj hw
     exact k4 _ (by simp only;omega) (by simp only;omega)
   · split at hw
     · rename_i hlt
       obtain rfl:=Option.some.inj hw
       exact k5 _ _ (by simp only;omega) hlt (Nat.zero_le _)
     · cases hw
end
end Go.Proofs.YtcjkndjjbjoehaaGreat
namespace Go.Proofs.YtcjkndjjbjoehaaGreat
open Go.RowKit
attribute [local irreducible] OQ OS OX Rd T TL GX GL AL AI RV wpG SAny Calls
theorem on_calls (AM A:Option Addr) (m cM n cp:Nat) (L:List Lg) (w:World) (hr:RdS w 5 A n (L.map lgCells)) (hn:n≤1000000) (hm:m≤1000000) (hch:chartB m L=true) (AR:Option Addr) (nR cR:Nat) (hnR:nR≤1000000) (rs:List Int) (hR:RdS w 1 AR nR (rs.map inCells)) (h me t:Nat) (z:Lg) (hrs:rs[h]?=some (t:Int)) (hz:L[t]?=some z) (hme:(me:Int)≤lenV z.x z.y):Calls Tryz.prog 45 #[.agg #[.slice AM m cM,.slice A n cp],.slice AR nR cR,.agg #[.int .i64 (h:Nat),.int .i64 (me:Nat)]] w fun e w'=>e=.returned (.bool true)∧Ext w w':=by
 have hlr:rs.length=nR:=by simpa using hR.len
 have hlt:=(List.getElem?_eq_some_iff.1 hrs).1
 have HL:=fun w1 (hx:Ext w w1)=>routeLength_calls AM A m cM n cp L w1 (hr.ext hx) hn hm ((t:Nat):Int)
 rw [lengthR_in hch hz] at HL
 obtain ⟨zx,zy⟩:=((chartB_iff.1 hch).2.2 z (List.mem_of_getElem? hz)).2.2.2
 have lb:=lenV_bound zx zy.1
 obtain ⟨bR,oR,r',rfl,_,hri',c9⟩:=in_read hR (show h<nR by omega)
 rw [hrs] at hri'
 obtain rfl:=Option.some.inj hri'
 obtain ⟨ln,hln⟩:=Int.eq_ofNat_of_zero_le lb.1
 rw [hln] at HL
 rw [hln] at hme
 refine enterQ (c:=cx w 42) Tryz.func45 rfl rfl rfl rfl ?_
 repeat' (first
   | ((with_reducible apply oq_id);first|(focus ((with_reducible apply oq_indexAddrN (i:=h));(iterate 4 exact rfl);omega))|((with_reducible apply oq_lssT);exact rfl;exact rfl;omega)|((with_reducible apply oq_lssF);exact rfl;exact rfl;omega)|((with_reducible apply oq_geqT);exact rfl;exact rfl;omega)|((with_reducible apply oq_geqF);exact rfl;exact rfl;omega)|((with_reducible apply oq_leqT);exact rfl;exact rfl;omega)|((with_reducible apply oq_leqF);exact rfl;exact rfl;omega)|((with_reducible apply oq_eqlT);exact rfl;exact rfl;omega)|((with_reducible apply oq_eqlF);exact rfl;exact rfl;omega)|(apply oq_fn;exact rfl;first|exact trivial|(and_intros<;>omega)|omega|skip)|((with_reducible apply oq_load);exact rfl;exact rfl)|((with_reducible apply oq_loadAgg);exact rfl;exact rfl)|((with_reducible apply oq_call (hc:=Tryz.call44));exact rfl;exact rfl;exact fun D w1 hw1=>HL w1 hw1.ext.ext)|((with_reducible apply oq_build);(iterate 3 exact rfl))|((with_reducible apply oq_buildA);(iterate 4 exact rfl))|((with_reducible apply oq_fieldAgg);(iterate 3 exact rfl))|((with_reducible apply oq_indexAgg);(iterate 4 exact rfl)))
   | ((with_reducible apply tl_id);first|(with_reducible apply tl_nil)|((with_reducible apply u_q);(iterate 4 exact rfl))|((with_reducible apply u_s0);exact rfl;exact rfl)|((with_reducible apply u_s);(iterate 3 exact rfl))|((with_reducible apply u_skip);(iterate 3 exact rfl))|((with_reducible apply u_splitD);exact rfl;exact rfl;all_goals first|(intro hp;try (exfalso;omega))|skip)|((with_reducible apply u_splitN);exact rfl;exact rfl;all_goals first|(intro hp;try (exfalso;omega))|skip)|((with_reducible apply u_split);exact rfl;exact rfl;all_goals first|intro hp|skip))
   | ((with_reducible apply gx_id);first|(with_reducible apply v_nil)|((with_reducible apply v_q);(iterate 3 exact rfl))|((with_reducible apply v_skip);(iterate 3 exact rfl))|((with_reducible apply v_splitD);exact rfl;exact rfl;all_goals first|(intro hp;try (exfalso;omega))|skip)|((with_reducible apply v_splitN);exact rfl;exact rfl;all_goals first|(intro hp;try (exfalso;omega))|skip)|((with_reducible apply v_split);exact rfl;exact rfl;all_goals first|intro hp|skip))
   | ((with_reducible apply os_id);first|((with_reducible apply os_x);exact rfl)|((with_reducible apply os_store);(iterate 4 exact rfl))|((with_reducible apply os_storeAgg);(iterate 5 exact rfl)))
   | ((with_reducible apply ox_id);first|((with_reducible apply ox_alloc);exact rfl;intro _)|((with_reducible apply ox_box);exact rfl;exact rfl;intro _)|((with_reducible apply ox_boxAgg);exact rfl;intro _)|((with_reducible apply ox_buildSlice1);(iterate 6 exact rfl);intro _)|((with_reducible apply ox_buildSlice2);(iterate 6 exact rfl);intro _)|((with_reducible apply ox_buildSlice);(iterate 4 exact rfl)))
   | ((with_reducible apply rd_id);first|(apply Rd.own;(repeat first|exact P0|apply P1);exact rfl;done)|(apply Rd.old;(first|(with_reducible assumption)|exact c0|exact c1|exact c2|exact c3|exact c4|exact c5|exact c6|exact c7|exact c8|exact d0|exact d1|exact d2|exact d3|exact d4|exact d5);first|exact List.not_mem_nil|exact m0|exact m1|exact m2|exact m3|exact m4|exact m5|exact m6|exact m7|exact m8|exact m9))
   | ((with_reducible apply t_id);first|(with_reducible apply t_seq)|(apply t_region;kernel_rfl)|(apply t_drawn;kernel_rfl;decide +kernel;try simp only [List.append_eq,List.cons_append,List.nil_append])|((with_reducible apply t_condT);exact rfl)|((with_reducible apply t_condF);exact rfl)|((with_reducible apply t_condD);exact rfl;all_goals first|(intro hp;try (exfalso;omega))|skip)|((with_reducible apply t_condN);exact rfl;all_goals first|(intro hp;try (exfalso;omega))|skip)|((with_reducible apply t_cond);exact rfl;all_goals first|intro hp|skip)|(with_reducible apply t_ret)|(with_reducible apply t_skip)|(with_reducible apply t_exit)|(with_reducible apply t_block))
   | with_reducible apply q_thenN
   | with_reducible apply q_thenR
   | with_reducible apply q_blockR
   | with_reducible apply q_blockN
   | with_reducible apply q_thenE
   | ((with_reducible apply q_blockE);exact rfl)
   | ((with_reducible apply q_blockO);exact rfl)
   | exact P0
   | (with_reducible apply P1)
   | exact Rdn.zero
   | apply Rdn.succ
   | ((with_reducible apply Norm.nil);exact rfl)
   | ((with_reducible apply Norm.cons);exact rfl)
   | (with_reducible apply end_ret)
   | (with_reducible apply end_normal)
   | exact rvs_nil
   | (with_reducible apply rvs_cons)
   | ((with_reducible apply rv_tmp);exact rfl)
   | ((with_reducible apply rv_cell);exact rfl;exact rfl)
   | ((with_reducible apply rv_cellAgg);exact rfl;exact rfl)
   | exact Nat.le_of_ble_eq_true rfl
   | exact (rfl:(_:Bool)=true)
   | omega
   | (intro _ _;with_reducible apply tl_id)
   | (intro _;with_reducible apply tl_id)
   | (intro _ _;with_reducible apply al_id)
   | (intro _;with_reducible apply al_id))
 all_goals rfl
def ptO:Option (Nat×Nat)→Value
 | some y=>.tuple #[.agg #[.int .i64 (y.1:Nat),.int .i64 (y.2:Nat)],.bool true]
 | none=>.tuple #[.agg #[.int .i64 0,.int .i64 0],.bool false]
theorem after_calls (AM A:Option Addr) (m cM n cp:Nat) (L:List Lg) (w:World) (hr:RdS w 5 A n (L.map lgCells)) (hn:n≤1000000) (hm:m≤1000000) (hch:chartB m L=true) (AR:Option Addr) (nR cR:Nat) (hnR:nR≤1000000) (rs:List Int) (hR:RdS w 1 AR nR (rs.map inCells)) (h me t:Nat) (z:Lg) (hrs:rs[h]?=some (t:Int)) (hz:L[t]?=some z):Calls Tryz.prog 47 #[.agg #[.slice AM m cM,.slice A n cp],.slice AR nR cR,.agg #[.int .i64 (h:Nat),.int .i64 (me:Nat)]] w fun e w'=>e=.returned (ptO (nxP (fun _=>(lenV z.x z.y).toNat) nR (h,me)))∧Ext w w':=by
 have hlr:rs.length=nR:=by simpa using hR.len
 have hlt:=(List.getElem?_eq_some_iff.1 hrs).1
 have HL:=fun w1 (hx:Ext w w1)=>routeLength_calls AM A m cM n cp L w1 (hr.ext hx) hn hm ((t:Nat):Int)
 rw [lengthR_in hch hz] at HL
 obtain ⟨zx,zy⟩:=((chartB_iff.1 hch).2.2 z (List.mem_of_getElem? hz)).2.2.2
 have lb:=lenV_bound zx zy.1
 obtain ⟨bR,oR,r',rfl,_,hri',c9⟩:=in_read hR (show h<nR by omega)
 rw [hrs] at hri'
 obtain rfl:=Option.some.inj hri'
 obtain ⟨ln,hln⟩:=Int.eq_ofNat_of_zero_le lb.1
 rw [hln] at HL
 rw [hln,Int.toNat_natCast]
 unfold nxP
 simp only
 by_cases c1:me<ln
 · rw [if_pos c1]
   refine enterQ (c:=cx w 43) Tryz.func47 rfl rfl rfl rfl ?_
   repeat' (first
     | ((with_reducible apply oq_id);first|(focus ((with_reducible apply oq_indexAddrN (i:=h));(iterate 4 exact rfl);omega))|(focus ((with_reducible apply (oq_addE (k:=((me+1:Nat):Int))));exact rfl;exact rfl;omega))|((with_reducible apply oq_lssT);exact rfl;exact rfl;omega)|((with_reducible apply oq_lssF);exact rfl;exact rfl;omega)|(apply oq_fn;exact rfl;first|exact trivial|(and_intros<;>omega)|omega|skip)|((with_reducible apply oq_load);exact rfl;exact rfl)|((with_reducible apply oq_loadAgg);exact rfl;exact rfl)|((with_reducible apply oq_call (hc:=Tryz.call44));exact rfl;exact rfl;exact fun D w1 hw1=>HL w1 hw1.ext.ext)|((with_reducible apply oq_build);(iterate 3 exact rfl))|((with_reducible apply oq_buildA);(iterate 4 exact rfl))|((with_reducible apply oq_fieldAgg);(iterate 3 exact rfl))|((with_reducible apply oq_indexAgg);(iterate 4 exact rfl)))
     | ((with_reducible apply tl_id);first|(with_reducible apply tl_nil)|((with_reducible apply u_q);(iterate 4 exact rfl))|((with_reducible apply u_s0);exact rfl;exact rfl)|((with_reducible apply u_s);(iterate 3 exact rfl))|((with_reducible apply u_skip);(iterate 3 exact rfl))|((with_reducible apply u_splitD);exact rfl;exact rfl;all_goals first|(intro hp;try (exfalso;omega))|skip)|((with_reducible apply u_splitN);exact rfl;exact rfl;all_goals first|(intro hp;try (exfalso;omega))|skip)|((with_reducible apply u_split);exact rfl;exact rfl;all_goals first|intro hp|skip))
     | ((with_reducible apply gx_id);first|(with_reducible apply v_nil)|((with_reducible apply v_q);(iterate 3 exact rfl))|((with_reducible apply v_skip);(iterate 3 exact rfl))|((with_reducible apply v_splitD);exact rfl;exact rfl;all_goals first|(intro hp;try (exfalso;omega))|skip)|((with_reducible apply v_splitN);exact rfl;exact rfl;all_goals first|(intro hp;try (exfalso;omega))|skip)|((with_reducible apply v_split);exact rfl;exact rfl;all_goals first|intro hp|skip))
     | ((with_reducible apply os_id);first|((with_reducible apply os_x);exact rfl)|((with_reducible apply os_store);(iterate 4 exact rfl))|((with_reducible apply os_storeAgg);(iterate 5 exact rfl)))
     | ((with_reducible apply ox_id);first|((with_reducible apply ox_alloc);exact rfl;intro _)|((with_reducible apply ox_box);exact rfl;exact rfl;intro _)|((with_reducible apply ox_boxAgg);exact rfl;intro _)|((with_reducible apply ox_buildSlice1);(iterate 6 exact rfl);intro _)|((with_reducible apply ox_buildSlice2);(iterate 6 exact rfl);intro _)|((with_reducible apply ox_buildSlice);(iterate 4 exact rfl)))
     | ((with_reducible apply rd_id);first|(apply Rd.own;(repeat first|exact P0|apply P1);exact rfl;done)|(apply Rd.old;(first|(with_reducible assumption)|exact c0|exact c1|exact c2|exact c3|exact c4|exact c5|exact c6|exact c7|exact c8|exact d0|exact d1|exact d2|exact d3|exact d4|exact d5);first|exact List.not_mem_nil|exact m0|exact m1|exact m2|exact m3|exact m4|exact m5|exact m6|exact m7|exact m8|exact m9))
     | ((with_reducible apply t_id);first|(with_reducible apply t_seq)|(apply t_region;kernel_rfl)|(apply t_drawn;kernel_rfl;decide +kernel;try simp only [List.append_eq,List.cons_append,List.nil_append])|((with_reducible apply t_condT);exact rfl)|((with_reducible apply t_condF);exact rfl)|((with_reducible apply t_condD);exact rfl;all_goals first|(intro hp;try (exfalso;omega))|skip)|((with_reducible apply t_condN);exact rfl;all_goals first|(intro hp;try (exfalso;omega))|skip)|((with_reducible apply t_cond);exact rfl;all_goals first|intro hp|skip)|(with_reducible apply t_ret)|(with_reducible apply t_skip)|(with_reducible apply t_exit)|(with_reducible apply t_block))
     | with_reducible apply q_thenN
     | with_reducible apply q_thenR
     | with_reducible apply q_blockR
     | with_reducible apply q_blockN
     | with_reducible apply q_thenE
     | ((with_reducible apply q_blockE);exact rfl)
     | ((with_reducible apply q_blockO);exact rfl)
     | exact P0
     | (with_reducible apply P1)
     | exact Rdn.zero
     | apply Rdn.succ
     | ((with_reducible apply Norm.nil);exact rfl)
     | ((with_reducible apply Norm.cons);exact rfl)
     | (with_reducible apply end_ret)
     | (with_reducible apply end_normal)
     | exact rvs_nil
     | (with_reducible apply rvs_cons)
     | ((with_reducible apply rv_tmp);exact rfl)
     | ((with_reducible apply rv_cell);exact rfl;exact rfl)
     | ((with_reducible apply rv_cellAgg);exact rfl;exact rfl)
     | exact Nat.le_of_ble_eq_true rfl
     | exact (rfl:(_:Bool)=true)
     | omega
     | (intro _ _;with_reducible apply tl_id)
     | (intro _;with_reducible apply tl_id)
     | (intro _ _;with_reducible apply al_id)
     | (intro _;with_reducible apply al_id))
   all_goals rfl
 rw [if_neg c1]
 by_cases c2:h+1<nR
 · rw [if_pos c2]
   refine enterQ (c:=cx w 43) Tryz.func47 rfl rfl rfl rfl ?_
   repeat' (first
     | ((with_reducible apply oq_id);first|(focus ((with_reducible apply oq_indexAddrN (i:=h));(iterate 4 exact rfl);omega))|(focus ((with_reducible apply (oq_addE (k:=((h+1:Nat):Int))));exact rfl;exact rfl;omega))|((with_reducible apply oq_lssT);exact rfl;exact rfl;omega)|((with_reducible apply oq_lssF);exact rfl;exact rfl;omega)|(apply oq_fn;exact rfl;first|exact trivial|(and_intros<;>omega)|omega|skip)|((with_reducible apply oq_load);exact rfl;exact rfl)|((with_reducible apply oq_loadAgg);exact rfl;exact rfl)|((with_reducible apply oq_call (hc:=Tryz.call44));exact rfl;exact rfl;exact fun D w1 hw1=>HL w1 hw1.ext.ext)|((with_reducible apply oq_build);(iterate 3 exact rfl))|((with_reducible apply oq_buildA);(iterate 4 exact rfl))|((with_reducible apply oq_fieldAgg);(iterate 3 exact rfl))|((with_reducible apply oq_indexAgg);(iterate 4 exact rfl)))
     | ((with_reducible apply tl_id);first|(with_reducible apply tl_nil)|((with_reducible apply u_q);(iterate 4 exact rfl))|((with_reducible apply u_s0);exact rfl;exact rfl)|((with_reducible apply u_s);(iterate 3 exact rfl))|((with_reducible apply u_skip);(iterate 3 exact rfl))|((with_reducible apply u_splitD);exact rfl;exact rfl;all_goals first|(intro hp;try (exfalso;omega))|skip)|((with_reducible apply u_splitN);exact rfl;exact rfl;all_goals first|(intro hp;try (exfalso;omega))|skip)|((with_reducible apply u_split);exact rfl;exact rfl;all_goals first|intro hp|skip))
     | ((with_reducible apply gx_id);first|(with_reducible apply v_nil)|((with_reducible apply v_q);(iterate 3 exact rfl))|((with_reducible apply v_skip);(iterate 3 exact rfl))|((with_reducible apply v_splitD);exact rfl;exact rfl;all_goals first|(intro hp;try (exfalso;omega))|skip)|((with_reducible apply v_splitN);exact rfl;exact rfl;all_goals first|(intro hp;try (exfalso;omega))|skip)|((with_reducible apply v_split);exact rfl;exact rfl;all_goals first|intro hp|skip))
     | ((with_reducible apply os_id);first|((with_reducible apply os_x);exact rfl)|((with_reducible apply os_store);(iterate 4 exact rfl))|((with_reducible apply os_storeAgg);(iterate 5 exact rfl)))
     | ((with_reducible apply ox_id);first|((with_reducible apply ox_alloc);exact rfl;intro _)|((with_reducible apply ox_box);exact rfl;exact rfl;intro _)|((with_reducible apply ox_boxAgg);exact rfl;intro _)|((with_reducible apply ox_buildSlice1);(iterate 6 exact rfl);intro _)|((with_reducible apply ox_buildSlice2);(iterate 6 exact rfl);intro _)|((with_reducible apply ox_buildSlice);(iterate 4 exact rfl)))
     | ((with_reducible apply rd_id);first|(apply Rd.own;(repeat first|exact P0|apply P1);exact rfl;done)|(apply Rd.old;(first|(with_reducible assumption)|exact c0|exact c1|exact c2|exact c3|exact c4|exact c5|exact c6|exact c7|exact c8|exact d0|exact d1|exact d2|exact d3|exact d4|exact d5);first|exact List.not_mem_nil|exact m0|exact m1|exact m2|exact m3|exact m4|exact m5|exact m6|exact m7|exact m8|exact m9))
     | ((with_reducible apply t_id);first|(with_reducible apply t_seq)|(apply t_region;kernel_rfl)|(apply t_drawn;kernel_rfl;decide +kernel;try simp only [List.append_eq,List.cons_append,List.nil_append])|((with_reducible apply t_condT);exact rfl)|((with_reducible apply t_condF);exact rfl)|((with_reducible apply t_condD);exact rfl;all_goals first|(intro hp;try (exfalso;omega))|skip)|((with_reducible apply t_condN);exact rfl;all_goals first|(intro hp;try (exfalso;omega))|skip)|((with_reducible apply t_cond);exact rfl;all_goals first|intro hp|skip)|(with_reducible apply t_ret)|(with_reducible apply t_skip)|(with_reducible apply t_exit)|(with_reducible apply t_block))
     | with_reducible apply q_thenN
     | with_reducible apply q_thenR
     | with_reducible apply q_blockR
     | with_reducible apply q_blockN
     | with_reducible apply q_thenE
     | ((with_reducible apply q_blockE);exact rfl)
     | ((with_reducible apply q_blockO);exact rfl)
     | exact P0
     | (with_reducible apply P1)
     | exact Rdn.zero
     | apply Rdn.succ
     | ((with_reducible apply Norm.nil);exact rfl)
     | ((with_reducible apply Norm.cons);exact rfl)
     | (with_reducible apply end_ret)
     | (with_reducible apply end_normal)
     | exact rvs_nil
     | (with_reducible apply rvs_cons)
     | ((with_reducible apply rv_tmp);exact rfl)
     | ((with_reducible apply rv_cell);exact rfl;exact rfl)
     | ((with_reducible apply rv_cellAgg);exact rfl;exact rfl)
     | exact Nat.le_of_ble_eq_true rfl
     | exact (rfl:(_:Bool)=true)
     | omega
     | (intro _ _;with_reducible apply tl_id)
     | (intro _;with_reducible apply tl_id)
     | (intro _ _;with_reducible apply al_id)
     | (intro _;with_reducible apply al_id))
   all_goals rfl
 · rw [if_neg c2]
   refine enterQ (c:=cx w 43) Tryz.func47 rfl rfl rfl rfl ?_
   repeat' (first
     | ((with_reducible apply oq_id);first|(focus ((with_reducible apply oq_indexAddrN (i:=h));(iterate 4 exact rfl);omega))|(focus ((with_reducible apply (oq_addE (k:=((h+1:Nat):Int))));exact rfl;exact rfl;omega))|((with_reducible apply oq_lssT);exact rfl;exact rfl;omega)|((with_reducible apply oq_lssF);exact rfl;exact rfl;omega)|(apply oq_fn;exact rfl;first|exact trivial|(and_intros<;>omega)|omega|skip)|((with_reducible apply oq_load);exact rfl;exact rfl)|((with_reducible apply oq_loadAgg);exact rfl;exact rfl)|((with_reducible apply oq_call (hc:=Tryz.call44));exact rfl;exact rfl;exact fun D w1 hw1=>HL w1 hw1.ext.ext)|((with_reducible apply oq_build);(iterate 3 exact rfl))|((with_reducible apply oq_buildA);(iterate 4 exact rfl))|((with_reducible apply oq_fieldAgg);(iterate 3 exact rfl))|((with_reducible apply oq_indexAgg);(iterate 4 exact rfl)))
     | ((with_reducible apply tl_id);first|(with_reducible apply tl_nil)|((with_reducible apply u_q);(iterate 4 exact rfl))|((with_reducible apply u_s0);exact rfl;exact rfl)|((with_reducible apply u_s);(iterate 3 exact rfl))|((with_reducible apply u_skip);(iterate 3 exact rfl))|((with_reducible apply u_splitD);exact rfl;exact rfl;all_goals first|(intro hp;try (exfalso;omega))|skip)|((with_reducible apply u_splitN);exact rfl;exact rfl;all_goals first|(intro hp;try (exfalso;omega))|skip)|((with_reducible apply u_split);exact rfl;exact rfl;all_goals first|intro hp|skip))
     | ((with_reducible apply gx_id);first|(with_reducible apply v_nil)|((with_reducible apply v_q);(iterate 3 exact rfl))|((with_reducible apply v_skip);(iterate 3 exact rfl))|((with_reducible apply v_splitD);exact rfl;exact rfl;all_goals first|(intro hp;try (exfalso;omega))|skip)|((with_reducible apply v_splitN);exact rfl;exact rfl;all_goals first|(intro hp;try (exfalso;omega))|skip)|((with_reducible apply v_split);exact rfl;exact rfl;all_goals first|intro hp|skip))
     | ((with_reducible apply os_id);first|((with_reducible apply os_x);exact rfl)|((with_reducible apply os_store);(iterate 4 exact rfl))|((with_reducible apply os_storeAgg);(iterate 5 exact rfl)))
     | ((with_reducible apply ox_id);first|((with_reducible apply ox_alloc);exact rfl;intro _)|((with_reducible apply ox_box);exact rfl;exact rfl;intro _)|((with_reducible apply ox_boxAgg);exact rfl;intro _)|((with_reducible apply ox_buildSlice1);(iterate 6 exact rfl);intro _)|((with_reducible apply ox_buildSlice2);(iterate 6 exact rfl);intro _)|((with_reducible apply ox_buildSlice);(iterate 4 exact rfl)))
     | ((with_reducible apply rd_id);first|(apply Rd.own;(repeat first|exact P0|apply P1);exact rfl;done)|(apply Rd.old;(first|(with_reducible assumption)|exact c0|exact c1|exact c2|exact c3|exact c4|exact c5|exact c6|exact c7|exact c8|exact d0|exact d1|exact d2|exact d3|exact d4|exact d5);first|exact List.not_mem_nil|exact m0|exact m1|exact m2|exact m3|exact m4|exact m5|exact m6|exact m7|exact m8|exact m9))
     | ((with_reducible apply t_id);first|(with_reducible apply t_seq)|(apply t_region;kernel_rfl)|(apply t_drawn;kernel_rfl;decide +kernel;try simp only [List.append_eq,List.cons_append,List.nil_append])|((with_reducible apply t_condT);exact rfl)|((with_reducible apply t_condF);exact rfl)|((with_reducible apply t_condD);exact rfl;all_goals first|(intro hp;try (exfalso;omega))|skip)|((with_reducible apply t_condN);exact rfl;all_goals first|(intro hp;try (exfalso;omega))|skip)|((with_reducible apply t_cond);exact rfl;all_goals first|intro hp|skip)|(with_reducible apply t_ret)|(with_reducible apply t_skip)|(with_reducible apply t_exit)|(with_reducible apply t_block))
     | with_reducible apply q_thenN
     | with_reducible apply q_thenR
     | with_reducible apply q_blockR
     | with_reducible apply q_blockN
     | with_reducible apply q_thenE
     | ((with_reducible apply q_blockE);exact rfl)
     | ((with_reducible apply q_blockO);exact rfl)
     | exact P0
     | (with_reducible apply P1)
     | exact Rdn.zero
     | apply Rdn.succ
     | ((with_reducible apply Norm.nil);exact rfl)
     | ((with_reducible apply Norm.cons);exact rfl)
     | (with_reducible apply end_ret)
     | (with_reducible apply end_normal)
     | exact rvs_nil
     | (with_reducible apply rvs_cons)
     | ((with_reducible apply rv_tmp);exact rfl)
     | ((with_reducible apply rv_cell);exact rfl;exact rfl)
     | ((with_reducible apply rv_cellAgg);exact rfl;exact rfl)
     | exact Nat.le_of_ble_eq_true rfl
     | exact (rfl:(_:Bool)=true)
     | omega
     | (intro _ _;with_reducible apply tl_id)
     | (intro _;with_reducible apply tl_id)
     | (intro _ _;with_reducible apply al_id)
     | (intro _;with_reducible apply al_id))
   all_goals rfl
end Go.Proofs.YtcjkndjjbjoehaaGreat
namespace Go.Proofs.YtcjkndjjbjoehaaGreat
open Go.RowKit
section
variable {L:List Lg} {cst:Lg→Bool→Int} {m:Nat}
/-! Along a trip -/
theorem trip_head {s:Nat}:∀ (rs:List Int) (p q:Trp),p.2[0]?=some s→rs.foldl (stF L) (some p)=some q→q.2[0]?=some s
 | [],p,q,h,e=>by obtain rfl:=Option.some.inj e;exact h
 | r::rs,p,q,h,e=>by
   rw [List.foldl_cons] at e
   cases hs:stF L (some p) r with
   | none=>rw [hs,stF_none] at e;cases e
   | some p'=>
     rw [hs] at e
     refine trip_head rs p' q ?_ e
     simp only [stF] at hs
     split at hs
     rotate_left
     · cases hs
     split at hs
     · cases hs
     split at hs
     rotate_left
     · cases hs
     obtain rfl:=Option.some.inj hs
     have hl:=(List.getElem?_eq_some_iff.1 h).1
     simp only
     rw [List.getElem?_append_left hl];exact h
theorem tripF_head {s:Nat} {rs:List Int} {p:Trp} (h:tripF L s rs=some p):p.2[0]?=some s:=trip_head rs _ p rfl h
end
end Go.Proofs.YtcjkndjjbjoehaaGreat
namespace Go.Proofs.YtcjkndjjbjoehaaGreat
open Go.RowKit
attribute [local irreducible] OQ OS OX Rd T TL GX GL AL AI RV wpG SAny Calls
theorem led_bad2 {m:Nat} {L:List Lg} {v q1 q2 q3 q4 g0 g1:Int} {C:List Wn} {s:Int} {rs:List Int} (h:ledE m L v q1 q2 q3 q4 g0 g1 C s rs≠0):ledE m L v q1 q2 q3 q4 g0 g1 C s rs=61∨ledE m L v q1 q2 q3 q4 g0 g1 C s rs=62∨ledE m L v q1 q2 q3 q4 g0 g1 C s rs=4∨ledE m L v q1 q2 q3 q4 g0 g1 C s rs=22∨ledE m L v q1 q2 q3 q4 g0 g1 C s rs=2:=by
 by_cases hA:askE m L v q1 q2 q3 q4 g0 g1 C=0
 · unfold ledE at h ⊢
   rw [if_pos hA] at h ⊢
   by_cases h2:rs.length≤20
   · rw [if_pos h2] at h ⊢
     cases ht:tripI m L s rs with
     | none=>simp
     | some p=>rw [ht] at h;exact absurd rfl h
   · rw [if_neg h2];simp
 · have:=askE_bad hA
   unfold ledE
   rw [if_neg hA]
   simp at this
   omega
theorem bil_zero {v q1 q2 q3 q4:Int} {g0 g1 m:Nat} {C:List Wn} {L:List Lg} (hL:∀ z∈L,LegOk m z) (hp:PaceOk v q1 q2 q3 q4 g0 g1) (hcw:∀ x∈C,windB x.l=true) (x:Nat×Bool):bilL v q1 q2 q3 g0 g1 C L x 0=(0,0):=by
 unfold bilL
 split
 · rfl
 · rename_i z hz
   unfold bilV
   split
   · rfl
   · rename_i hR
     obtain ⟨h1,h2⟩:=hullT_bound (m:=0) (Nat.zero_le _) _ (legRz_in (bk:=x.2) (hL z (List.mem_of_getElem? hz)) hp hcw)
     obtain ⟨_,_,_,_,_,kg⟩:=id hp
     rw [aH_eq h1 (by omega),show (hullT 0 (legRz v q1 q2 q3 z x.2 C)).2=0 by omega,Nat.zero_mul]
     rfl
theorem nxP_eq {ln ln':Nat→Nat} {n n':Nat} {x:Nat×Nat} (h:ln x.1=ln' x.1) (hn:n=n'):nxP ln n x=nxP ln' n' x:=by
 unfold nxP
 rw [h,hn]
theorem nxP_in {ln:Nat→Nat} {n:Nat} {x y:Nat×Nat} (h:nxP ln n x=some y) (hx:x.1<n):y.1<n∧y.2≤ln y.1:=by
 unfold nxP at h
 split at h
 · obtain rfl:=Option.some.inj h
   exact ⟨hx,by simp only;omega⟩
 · split at h
   · obtain rfl:=Option.some.inj h
     exact ⟨by assumption,Nat.zero_le _⟩
   · cases h
theorem routeEqual_T (AM A:Option Addr) (m cM n cp:Nat) (L:List Lg) (w:World) (hr:RdS w 5 A n (L.map lgCells)) (v q1 q2 q3 q4 g0 g1:Int) (AC:Option Addr) (nC cC:Nat) (C:List Wn) (hrc:CastR w AC nC C) (s:Int) (AR:Option Addr) (nR cR:Nat) (rs:List Int) (hR:RdS w 1 AR nR (rs.map inCells)):Calls Tryz.prog 10 #[.agg #[.slice AM m cM,.slice A n cp],.agg #[.int .i64 v,.int .i64 q1,.int .i64 q2,.int .i64 q3,.int .i64 q4,.int .i64 g0,.int .i64 g1],.slice AC nC cC,.int .i64 s,.slice AR nR cR] w fun e w'=>e=.returned (.bool true)∧Ext w w':=by
 have hlr:rs.length=nR:=by simpa using hR.len
 have HG:=fun w1 (hx:Ext w w1)=>great_calls AM A m cM n cp AC nC cC C w1 (hrc.ext hx)
 refine enterQ (c:=cx w 113) Tryz.func10 rfl rfl rfl rfl ?_
 refine t_cut (ι:=Nat×Nat) (fun z=>[(2,.slice AC nC cC),(3,.int .i64 s),(4,.slice AR nR cR),(5,.pointer (some ⟨z.1,0,none⟩)),(6,.pointer (some ⟨z.2,0,none⟩))]) (fun z=>(z.1,[.slice AM m cM,.slice A n cp],some (25,2,1))::(z.2,[.int .i64 v,.int .i64 q1,.int .i64 q2,.int .i64 q3,.int .i64 q4,.int .i64 g0,.int .i64 g1],some (29,7,1))::[]) (fun _=>True) ?_ ?_
 · repeat' (first|((with_reducible apply oq_id);first|(apply oq_fn;exact rfl;first|exact trivial|(and_intros<;>omega)|omega|skip))|((with_reducible apply tl_id);first|(with_reducible apply tl_nil)|((with_reducible apply u_q);(iterate 4 exact rfl))|((with_reducible apply u_s);(iterate 3 exact rfl)))|((with_reducible apply os_id);first|((with_reducible apply os_x);exact rfl))|((with_reducible apply ox_id);first|((with_reducible apply ox_boxAgg);exact rfl;intro _))|((with_reducible apply t_id);first|(apply t_region;kernel_rfl)))
   all_goals exact ⟨rfl,(_,_),trivial,by (repeat first|exact FrSub.nil|(apply FrSub.cons;exact rfl)),by (repeat' (first|exact HpSub.refl _|(apply HpSub.consE;(repeat first|exact P0|apply P1);first|exact rfl|(simp;done))))⟩
 rintro ⟨b1,b2⟩ -
 try simp only
 refine t_cut (ι:=Unit) (fun _=>[(2,.slice AC nC cC),(3,.int .i64 s),(4,.slice AR nR cR),(5,.pointer (some ⟨b1,0,none⟩)),(6,.pointer (some ⟨b2,0,none⟩)),(11,.bool true)]) (fun _=>(b1,[.slice AM m cM,.slice A n cp],some (25,2,1))::(b2,[.int .i64 v,.int .i64 q1,.int .i64 q2,.int .i64 q3,.int .i64 q4,.int .i64 g0,.int .i64 g1],some (29,7,1))::[]) (fun _=>True) ?_ ?_
 · repeat' (first|((with_reducible apply oq_id);first|(apply oq_fn;exact rfl;first|exact trivial|(and_intros<;>omega)|omega|skip)|((with_reducible apply oq_call (hc:=Tryz.call34));exact rfl;exact rfl;exact fun D w1 hw1=>alive_calls w1))|((with_reducible apply tl_id);first|(with_reducible apply tl_nil)|((with_reducible apply u_q);(iterate 4 exact rfl)))|((with_reducible apply t_id);first|(apply t_region;kernel_rfl)))
   all_goals exact ⟨by trivial,(),trivial,by (repeat first|exact FrSub.nil|(apply FrSub.cons;exact rfl)),by (repeat' (first|exact HpSub.refl _))⟩
 rintro ⟨⟩ -
 by_cases hbig:¬ Small m n C∨20<nR
 · by_cases hS:Small m n C
   · rw [decide_eq_true hS] at HG
     by_cases g1:20<nR
     · repeat' (first|((with_reducible apply oq_id);first|((with_reducible apply oq_gtrT);exact rfl;exact rfl;omega)|(apply oq_fn;exact rfl;first|exact trivial|(and_intros<;>omega)|omega|skip)|((with_reducible apply oq_loadAgg);exact rfl;exact rfl)|((with_reducible apply oq_call (hc:=Tryz.call15));exact rfl;exact rfl;exact fun D w1 hw1=>HG w1 hw1.ext.ext))|((with_reducible apply tl_id);first|(with_reducible apply tl_nil)|((with_reducible apply u_q);(iterate 4 exact rfl))|((with_reducible apply u_skip);(iterate 3 exact rfl)))|((with_reducible apply rd_id);first|(apply Rd.own;(repeat first|exact P0|apply P1);exact rfl;done))|((with_reducible apply t_id);first|(with_reducible apply t_seq)|(apply t_region;kernel_rfl)|((with_reducible apply t_condT);exact rfl)|(with_reducible apply t_ret))|with_reducible apply q_thenN|with_reducible apply q_thenR|exact Rdn.zero|apply Rdn.succ|(with_reducible apply end_ret)|exact rvs_nil|(with_reducible apply rvs_cons)|((with_reducible apply rv_tmp);exact rfl))
       all_goals rfl
     exact absurd (hbig.resolve_left (fun h=>h hS)) (by omega)
   · rw [decide_eq_false hS] at HG
     repeat' (first|((with_reducible apply oq_id);first|(apply oq_fn;exact rfl;first|exact trivial|(and_intros<;>omega)|omega|skip)|((with_reducible apply oq_loadAgg);exact rfl;exact rfl)|((with_reducible apply oq_call (hc:=Tryz.call15));exact rfl;exact rfl;exact fun D w1 hw1=>HG w1 hw1.ext.ext))|((with_reducible apply tl_id);first|(with_reducible apply tl_nil)|((with_reducible apply u_q);(iterate 4 exact rfl))|((with_reducible apply u_skip);(iterate 3 exact rfl)))|((with_reducible apply rd_id);first|(apply Rd.own;(repeat first|exact P0|apply P1);exact rfl;done))|((with_reducible apply t_id);first|(with_reducible apply t_seq)|(apply t_region;kernel_rfl)|((with_reducible apply t_condT);exact rfl)|(with_reducible apply t_ret))|with_reducible apply q_thenN|with_reducible apply q_thenR|exact Rdn.zero|apply Rdn.succ|(with_reducible apply end_ret)|exact rvs_nil|(with_reducible apply rvs_cons)|((with_reducible apply rv_tmp);exact rfl))
     all_goals rfl
 obtain ⟨hS,gg0⟩:Small m n C∧¬ (20<nR):=⟨Classical.byContradiction fun h=>hbig (.inl h),fun h=>hbig (.inr (h))⟩
 rw [decide_eq_true hS] at HG
 obtain ⟨hm,hn,hc8,hs24⟩:=hS
 have hs:∀ z∈C,z.n≤1000000:=fun z hz=>by have:=hs24 z hz;omega
 have hm6:m≤1000000:=by omega
 have hn6:n≤1000000:=by omega
 refine t_cut (ι:=Unit) (fun _=>[(2,.slice AC nC cC),(3,.int .i64 s),(4,.slice AR nR cR),(5,.pointer (some ⟨b1,0,none⟩)),(6,.pointer (some ⟨b2,0,none⟩)),(11,.bool true)]) (fun _=>(b1,[.slice AM m cM,.slice A n cp],some (25,2,1))::(b2,[.int .i64 v,.int .i64 q1,.int .i64 q2,.int .i64 q3,.int .i64 q4,.int .i64 g0,.int .i64 g1],some (29,7,1))::[]) (fun _=>True) ?_ ?_
 · repeat' (first|((with_reducible apply oq_id);first|((with_reducible apply oq_gtrF);exact rfl;exact rfl;omega)|(apply oq_fn;exact rfl;first|exact trivial|(and_intros<;>omega)|omega|skip)|((with_reducible apply oq_loadAgg);exact rfl;exact rfl)|((with_reducible apply oq_call (hc:=Tryz.call15));exact rfl;exact rfl;exact fun D w1 hw1=>HG w1 hw1.ext.ext))|((with_reducible apply tl_id);first|(with_reducible apply tl_nil)|((with_reducible apply u_q);(iterate 4 exact rfl)))|((with_reducible apply rd_id);first|(apply Rd.own;(repeat first|exact P0|apply P1);exact rfl;done))|((with_reducible apply t_id);first|(with_reducible apply t_seq)|(apply t_region;kernel_rfl)|((with_reducible apply t_condF);exact rfl)|(with_reducible apply t_skip))|with_reducible apply q_thenN|exact Rdn.zero|apply Rdn.succ)
   all_goals exact ⟨by trivial,(),trivial,by (repeat first|exact FrSub.nil|(apply FrSub.cons;exact rfl)),by (repeat' (first|exact HpSub.refl _))⟩
 rintro ⟨⟩ -
 clear hbig HG
 have hnR:nR≤1000000:=by omega
 by_cases he:ledE m L v q1 q2 q3 q4 g0 g1 C s rs=0
 rotate_left
 · have H16:=fun w1 (hx:Ext w w1)=>equal18_err AM A m cM n cp L w1 (hr.ext hx) hn6 hm6 v q1 q2 q3 q4 g0 g1 AC nC cC C (hrc.ext hx) hs s AR nR cR rs (hR.ext hx) hnR he
   have hb:=led_bad2 he
   generalize ledE m L v q1 q2 q3 q4 g0 g1 C s rs=E at *
   repeat' (first|((with_reducible apply oq_id);first|((with_reducible apply oq_eqPnT);exact rfl;exact rfl;(focus (constructor<;>rfl)))|((with_reducible apply oq_neqT);exact rfl;exact rfl;omega)|(apply oq_fn;exact rfl;first|exact trivial|(and_intros<;>omega)|omega|skip)|((with_reducible apply oq_loadAgg);exact rfl;exact rfl)|((with_reducible apply oq_call (hc:=Tryz.call18));exact rfl;exact rfl;exact fun D w1 hw1=>H16 w1 hw1.ext.ext)|((with_reducible apply oq_build);(iterate 3 exact rfl)))|((with_reducible apply tl_id);first|(with_reducible apply tl_nil)|((with_reducible apply u_q);(iterate 4 exact rfl))|((with_reducible apply u_s0);exact rfl;exact rfl)|((with_reducible apply u_s);(iterate 3 exact rfl)))|((with_reducible apply os_id);first|((with_reducible apply os_x);exact rfl)|((with_reducible apply os_storeAgg);(iterate 5 exact rfl)))|((with_reducible apply ox_id);first|((with_reducible apply ox_alloc);exact rfl;intro _))|((with_reducible apply rd_id);first|(apply Rd.own;(repeat first|exact P0|apply P1);exact rfl;done))|((with_reducible apply t_id);first|(with_reducible apply t_seq)|(apply t_region;kernel_rfl)|((with_reducible apply t_condT);exact rfl)|(with_reducible apply t_ret))|with_reducible apply q_thenN|with_reducible apply q_thenR|exact P0|exact Rdn.zero|apply Rdn.succ|((with_reducible apply Norm.nil);exact rfl)|((with_reducible apply Norm.cons);exact rfl)|(with_reducible apply end_ret)|exact rvs_nil|(with_reducible apply rvs_cons)|((with_reducible apply rv_tmp);exact rfl)|exact Nat.le_of_ble_eq_true rfl)
   all_goals rfl
 obtain ⟨hE,h20,p,htr⟩:=led_zero he
 obtain ⟨hch,hpk,hk0⟩:=askE_ok hE
 obtain ⟨hcl,hcw⟩:=castE_zero.1 hk0
 obtain ⟨hm1,hL40,hLk⟩:=chartB_iff.1 hch
 have hti:=trip_in hLk htr
 obtain ⟨_,_,_,_,p5,kg⟩:=id hpk
 obtain ⟨g0,rfl⟩:=Int.eq_ofNat_of_zero_le kg.1
 obtain ⟨g1,rfl⟩:=Int.eq_ofNat_of_zero_le (show 0≤g1 by omega)
 obtain ⟨s,hs0',rfl⟩:∃ s':Nat,p.2[0]?=some s'∧s=(s':Int):=by
   have h:=htr
   unfold tripI at h
   split at h
   · rename_i hss
     obtain ⟨s',rfl⟩:=Int.eq_ofNat_of_zero_le hss.1
     rw [Int.toNat_natCast] at h
     exact ⟨s',tripF_head h,rfl⟩
   · cases h
 obtain ⟨t1,t2,t3,t4⟩:=id hti
 have H1:=fun w1 (hx:Ext w w1)=>equal18_ok AM A m cM n cp L w1 (hr.ext hx) hn6 hm6 v q1 q2 q3 q4 g0 g1 AC nC cC C (hrc.ext hx) hs (s:Nat) AR nR cR rs (hR.ext hx) hnR hE h20 p htr
 have hA:=anti_of (g:=p.1) (ln:=(lnL L)) (Pd:=eqP) (fun x m m' h=>bilL_mono (v:=v) (q1:=q1) (q2:=q2) (q3:=q3) (g0:=g0) (g1:=g1) (C:=C) (L:=L) (x:=x) h) eqP_anti
 obtain ⟨⟨⟨h,me⟩,e⟩,hpt⟩:∃ y,ptR v q1 q2 q3 g0 g1 C L p eqP=y:=⟨_,rfl⟩
 rw [hpt] at H1
 simp only at H1
 unfold ptR at hpt
 rcases las_inv hA hpt with ⟨rfl,hx0⟩|⟨rfl,hx0⟩|⟨rfl,hx0,hg0,hno⟩|⟨rfl,hop,hh,hme,hyes,hnx,_,_⟩
 · obtain ⟨rfl,rfl⟩:=Prod.mk.inj hx0
   repeat' (first|((with_reducible apply oq_id);first|((with_reducible apply oq_eqPnT);exact rfl;exact rfl;(focus (constructor<;>rfl)))|((with_reducible apply oq_neqT);exact rfl;exact rfl;omega)|(apply oq_fn;exact rfl;first|exact trivial|(and_intros<;>omega)|omega|skip)|((with_reducible apply oq_loadAgg);exact rfl;exact rfl)|((with_reducible apply oq_call (hc:=Tryz.call18));exact rfl;exact rfl;exact fun D w1 hw1=>H1 w1 hw1.ext.ext)|((with_reducible apply oq_build);(iterate 3 exact rfl)))|((with_reducible apply tl_id);first|(with_reducible apply tl_nil)|((with_reducible apply u_q);(iterate 4 exact rfl))|((with_reducible apply u_s0);exact rfl;exact rfl)|((with_reducible apply u_s);(iterate 3 exact rfl)))|((with_reducible apply os_id);first|((with_reducible apply os_x);exact rfl)|((with_reducible apply os_storeAgg);(iterate 5 exact rfl)))|((with_reducible apply ox_id);first|((with_reducible apply ox_alloc);exact rfl;intro _))|((with_reducible apply rd_id);first|(apply Rd.own;(repeat first|exact P0|apply P1);exact rfl;done))|((with_reducible apply t_id);first|(with_reducible apply t_seq)|(apply t_region;kernel_rfl)|((with_reducible apply t_condT);exact rfl)|(with_reducible apply t_ret))|with_reducible apply q_thenN|with_reducible apply q_thenR|exact P0|exact Rdn.zero|apply Rdn.succ|((with_reducible apply Norm.nil);exact rfl)|((with_reducible apply Norm.cons);exact rfl)|(with_reducible apply end_ret)|exact rvs_nil|(with_reducible apply rvs_cons)|((with_reducible apply rv_tmp);exact rfl)|exact Nat.le_of_ble_eq_true rfl)
   all_goals rfl
 · obtain ⟨rfl,rfl⟩:=Prod.mk.inj hx0
   repeat' (first|((with_reducible apply oq_id);first|((with_reducible apply oq_eqPnT);exact rfl;exact rfl;(focus (constructor<;>rfl)))|((with_reducible apply oq_neqT);exact rfl;exact rfl;omega)|(apply oq_fn;exact rfl;first|exact trivial|(and_intros<;>omega)|omega|skip)|((with_reducible apply oq_loadAgg);exact rfl;exact rfl)|((with_reducible apply oq_call (hc:=Tryz.call18));exact rfl;exact rfl;exact fun D w1 hw1=>H1 w1 hw1.ext.ext)|((with_reducible apply oq_build);(iterate 3 exact rfl)))|((with_reducible apply tl_id);first|(with_reducible apply tl_nil)|((with_reducible apply u_q);(iterate 4 exact rfl))|((with_reducible apply u_s0);exact rfl;exact rfl)|((with_reducible apply u_s);(iterate 3 exact rfl)))|((with_reducible apply os_id);first|((with_reducible apply os_x);exact rfl)|((with_reducible apply os_storeAgg);(iterate 5 exact rfl)))|((with_reducible apply ox_id);first|((with_reducible apply ox_alloc);exact rfl;intro _))|((with_reducible apply rd_id);first|(apply Rd.own;(repeat first|exact P0|apply P1);exact rfl;done))|((with_reducible apply t_id);first|(with_reducible apply t_seq)|(apply t_region;kernel_rfl)|((with_reducible apply t_condT);exact rfl)|(with_reducible apply t_ret))|with_reducible apply q_thenN|with_reducible apply q_thenR|exact P0|exact Rdn.zero|apply Rdn.succ|((with_reducible apply Norm.nil);exact rfl)|((with_reducible apply Norm.cons);exact rfl)|(with_reducible apply end_ret)|exact rvs_nil|(with_reducible apply rvs_cons)|((with_reducible apply rv_tmp);exact rfl)|exact Nat.le_of_ble_eq_true rfl)
   all_goals rfl
 · obtain ⟨z1,z2⟩:=at_zero (bil:=(bilL v q1 q2 q3 g0 g1 C L)) (ln:=(lnL L)) (g:=p.1) (bil_zero hLk hpk hcw) p.1.length
   unfold hpL eqP at hno
   rw [z2,decide_eq_false_iff_not] at hno
   exact absurd (Nat.zero_le _) hno
 have hop':∀ (j:Nat) (x:Nat×Bool) (z:Lg),p.1[j]?=some x→L[x.1]?=some z→legRz v q1 q2 q3 z false C≠[]∧legRz v q1 q2 q3 z true C≠[]:=fun j x z hj hz=>by
   have h:=List.all_eq_true.1 hop x (List.mem_of_getElem? hj)
   rw [Bool.and_eq_true,decide_eq_true_eq,decide_eq_true_eq] at h
   unfold flC at h
   simp only [hz] at h
   exact ⟨legC_open.1 h.1,legC_open.1 h.2⟩
 simp only at hh hme hyes
 unfold hpL eqP at hyes
 rw [decide_eq_true_eq,t1] at hyes
 obtain ⟨rh,hrh⟩:∃ r,rs[h]?=some r:=⟨_,List.getElem?_eq_getElem (by omega)⟩
 obtain ⟨zh,th,kh,_,_,eh,rfl,hzh,_⟩:=t4 h rh hrh
 have hlh:lnG (lnL L) p.1 h=(lenV zh.x zh.y).toNat:=by unfold lnG lnL;rw [eh];simp only;rw [hzh]
 have lbh:=lenV_bound (hLk zh (List.mem_of_getElem? hzh)).2.2.2.1 (hLk zh (List.mem_of_getElem? hzh)).2.2.2.2.1
 rw [hlh] at hme
 have HON:=fun w1 (hx:Ext w w1)=>on_calls AM A m cM n cp L w1 (hr.ext hx) hn6 hm6 hch AR nR cR hnR rs (hR.ext hx) h me th zh hrh hzh (by omega)
 have HAF:=fun w1 (hx:Ext w w1)=>after_calls AM A m cM n cp L w1 (hr.ext hx) hn6 hm6 hch AR nR cR hnR rs (hR.ext hx) h me th zh hrh hzh
 have HB:=fun w1 (hx:Ext w w1)=>bill_calls AM A m cM n cp L w1 (hr.ext hx) hn6 hm6 v q1 q2 q3 q4 g0 g1 AC nC cC C (hrc.ext hx) hs hE AR nR cR rs (hR.ext hx) h20 p hti s hs0' hop' h me (by omega) (fun x hxp=>by have hq:=hlh;unfold lnG at hq;rw [hxp] at hq;simp only at hq;omega) (by omega)
 generalize (atF (bilL v q1 q2 q3 g0 g1 C L) (lnL L) p.1 h me rs.length)=at1 at HB hyes
 obtain ⟨⟨a1,a2⟩,⟨a3,a4⟩,a5,a6⟩:=at1
 simp only at HB hyes
 refine t_cut (ι:=Nat) (fun z'=>[(2,.slice AC nC cC),(3,.int .i64 (s:Nat)),(4,.slice AR nR cR),(5,.pointer (some ⟨b1,0,none⟩)),(6,.pointer (some ⟨b2,0,none⟩)),(11,.bool true),(12,.pointer (some ⟨z',0,none⟩)),(13,.int .i64 0)]) (fun z'=>(z',[.int .i64 (h:Nat),.int .i64 (me:Nat)],some (34,2,1))::(b1,[.slice AM m cM,.slice A n cp],some (25,2,1))::(b2,[.int .i64 v,.int .i64 q1,.int .i64 q2,.int .i64 q3,.int .i64 q4,.int .i64 (g0:Nat),.int .i64 (g1:Nat)],some (29,7,1))::[]) (fun _=>True) ?_ ?_
 · repeat' (first|((with_reducible apply oq_id);first|(apply oq_fn;exact rfl;first|exact trivial|(and_intros<;>omega)|omega|skip)|((with_reducible apply oq_loadAgg);exact rfl;exact rfl)|((with_reducible apply oq_call (hc:=Tryz.call18));exact rfl;exact rfl;exact fun D w1 hw1=>H1 w1 hw1.ext.ext))|((with_reducible apply tl_id);first|(with_reducible apply tl_nil)|((with_reducible apply u_q);(iterate 4 exact rfl))|((with_reducible apply u_s0);exact rfl;exact rfl)|((with_reducible apply u_s);(iterate 3 exact rfl)))|((with_reducible apply os_id);first|((with_reducible apply os_x);exact rfl)|((with_reducible apply os_storeAgg);(iterate 5 exact rfl)))|((with_reducible apply ox_id);first|((with_reducible apply ox_alloc);exact rfl;intro _))|((with_reducible apply rd_id);first|(apply Rd.own;(repeat first|exact P0|apply P1);exact rfl;done))|((with_reducible apply t_id);first|(apply t_region;kernel_rfl))|exact P0|exact Rdn.zero|apply Rdn.succ|((with_reducible apply Norm.nil);exact rfl)|((with_reducible apply Norm.cons);exact rfl)|exact Nat.le_of_ble_eq_true rfl)
   all_goals exact ⟨by trivial,_,trivial,by (repeat first|exact FrSub.nil|(apply FrSub.cons;exact rfl)),by (repeat' (first|exact HpSub.refl _))⟩
 rintro b12 -
 try simp only
 refine t_cut (ι:=Unit) (fun _=>[(2,.slice AC nC cC),(3,.int .i64 (s:Nat)),(4,.slice AR nR cR),(5,.pointer (some ⟨b1,0,none⟩)),(6,.pointer (some ⟨b2,0,none⟩)),(11,.bool true),(12,.pointer (some ⟨b12,0,none⟩))]) (fun _=>(b12,[.int .i64 (h:Nat),.int .i64 (me:Nat)],some (34,2,1))::(b1,[.slice AM m cM,.slice A n cp],some (25,2,1))::(b2,[.int .i64 v,.int .i64 q1,.int .i64 q2,.int .i64 q3,.int .i64 q4,.int .i64 (g0:Nat),.int .i64 (g1:Nat)],some (29,7,1))::[]) (fun _=>True) ?_ ?_
 · repeat' (first|((with_reducible apply oq_id);first|((with_reducible apply oq_neqF);exact rfl;exact rfl;omega)|(apply oq_fn;exact rfl;first|exact trivial|(and_intros<;>omega)|omega|skip))|((with_reducible apply tl_id);first|(with_reducible apply tl_nil)|((with_reducible apply u_q);(iterate 4 exact rfl)))|((with_reducible apply t_id);first|(with_reducible apply t_seq)|(apply t_region;kernel_rfl)|((with_reducible apply t_condF);exact rfl)|(with_reducible apply t_skip))|with_reducible apply q_thenN)
   all_goals exact ⟨by trivial,(),trivial,by (repeat first|exact FrSub.nil|(apply FrSub.cons;exact rfl)),by (repeat' (first|exact HpSub.refl _))⟩
 rintro ⟨⟩ -
 refine t_cut (ι:=Unit) (fun _=>[(2,.slice AC nC cC),(3,.int .i64 (s:Nat)),(4,.slice AR nR cR),(5,.pointer (some ⟨b1,0,none⟩)),(6,.pointer (some ⟨b2,0,none⟩)),(11,.bool true),(12,.pointer (some ⟨b12,0,none⟩))]) (fun _=>(b12,[.int .i64 (h:Nat),.int .i64 (me:Nat)],some (34,2,1))::(b1,[.slice AM m cM,.slice A n cp],some (25,2,1))::(b2,[.int .i64 v,.int .i64 q1,.int .i64 q2,.int .i64 q3,.int .i64 q4,.int .i64 (g0:Nat),.int .i64 (g1:Nat)],some (29,7,1))::[]) (fun _=>True) ?_ ?_
 · repeat' (first|((with_reducible apply oq_id);first|(apply oq_fn;exact rfl;first|exact trivial|(and_intros<;>omega)|omega|skip)|((with_reducible apply oq_loadAgg);exact rfl;exact rfl)|((with_reducible apply oq_call (hc:=Tryz.call45));exact rfl;exact rfl;exact fun D w1 hw1=>HON w1 hw1.ext.ext))|((with_reducible apply tl_id);first|(with_reducible apply tl_nil)|((with_reducible apply u_q);(iterate 4 exact rfl)))|((with_reducible apply rd_id);first|(apply Rd.own;(repeat first|exact P0|apply P1);exact rfl;done))|((with_reducible apply t_id);first|(with_reducible apply t_seq)|(apply t_region;kernel_rfl)|((with_reducible apply t_condF);exact rfl)|(with_reducible apply t_skip))|with_reducible apply q_thenN|exact Rdn.zero|apply Rdn.succ)
   all_goals exact ⟨by trivial,(),trivial,by (repeat first|exact FrSub.nil|(apply FrSub.cons;exact rfl)),by (repeat' (first|exact HpSub.refl _))⟩
 rintro ⟨⟩ -
 refine t_cut (ι:=Nat×Nat) (fun z'=>[(2,.slice AC nC cC),(3,.int .i64 (s:Nat)),(4,.slice AR nR cR),(5,.pointer (some ⟨b1,0,none⟩)),(6,.pointer (some ⟨b2,0,none⟩)),(11,.bool true),(12,.pointer (some ⟨b12,0,none⟩)),(14,.pointer (some ⟨z'.1,0,none⟩)),(15,.pointer (some ⟨z'.2,0,none⟩)),(16,.bool true)]) (fun z'=>(z'.1,[.int .i64 ((a2:Nat):Int),.int .i64 ((a4:Nat):Int),.int .i64 ((a6:Nat):Int)],some (93,3,1))::(z'.2,[.int .i64 ((a1:Nat):Int),.int .i64 ((a3:Nat):Int),.int .i64 ((a5:Nat):Int)],some (93,3,1))::(b12,[.int .i64 (h:Nat),.int .i64 (me:Nat)],some (34,2,1))::(b1,[.slice AM m cM,.slice A n cp],some (25,2,1))::(b2,[.int .i64 v,.int .i64 q1,.int .i64 q2,.int .i64 q3,.int .i64 q4,.int .i64 (g0:Nat),.int .i64 (g1:Nat)],some (29,7,1))::[]) (fun _=>True) ?_ ?_
 · repeat' (first|((with_reducible apply oq_id);first|(apply oq_fn;exact rfl;first|exact trivial|(and_intros<;>omega)|omega|skip)|((with_reducible apply oq_loadAgg);exact rfl;exact rfl)|((with_reducible apply oq_call (hc:=Tryz.call46));exact rfl;exact rfl;exact fun D w1 hw1=>HB w1 hw1.ext.ext))|((with_reducible apply tl_id);first|(with_reducible apply tl_nil)|((with_reducible apply u_q);(iterate 4 exact rfl))|((with_reducible apply u_s0);exact rfl;exact rfl)|((with_reducible apply u_s);(iterate 3 exact rfl)))|((with_reducible apply os_id);first|((with_reducible apply os_x);exact rfl)|((with_reducible apply os_storeAgg);(iterate 5 exact rfl)))|((with_reducible apply ox_id);first|((with_reducible apply ox_alloc);exact rfl;intro _))|((with_reducible apply rd_id);first|(apply Rd.own;(repeat first|exact P0|apply P1);exact rfl;done))|((with_reducible apply t_id);first|(apply t_region;kernel_rfl))|exact P0|(with_reducible apply P1)|exact Rdn.zero|apply Rdn.succ|((with_reducible apply Norm.nil);exact rfl)|((with_reducible apply Norm.cons);exact rfl)|exact Nat.le_of_ble_eq_true rfl)
   all_goals exact ⟨by trivial,(_,_),trivial,by (repeat first|exact FrSub.nil|(apply FrSub.cons;exact rfl)),by (repeat' (first|exact HpSub.refl _|(apply HpSub.consE;(repeat first|exact P0|apply P1);first|exact rfl|(simp;done))))⟩
 rintro ⟨b14,b15⟩ -
 try simp only
 refine t_cut (ι:=Unit) (fun _=>[(2,.slice AC nC cC),(3,.int .i64 (s:Nat)),(4,.slice AR nR cR),(5,.pointer (some ⟨b1,0,none⟩)),(6,.pointer (some ⟨b2,0,none⟩)),(11,.bool true),(12,.pointer (some ⟨b12,0,none⟩))]) (fun _=>(b12,[.int .i64 (h:Nat),.int .i64 (me:Nat)],some (34,2,1))::(b1,[.slice AM m cM,.slice A n cp],some (25,2,1))::(b2,[.int .i64 v,.int .i64 q1,.int .i64 q2,.int .i64 q3,.int .i64 q4,.int .i64 (g0:Nat),.int .i64 (g1:Nat)],some (29,7,1))::[]) (fun _=>True) ?_ ?_
 · repeat' (first|((with_reducible apply oq_id);first|((with_reducible apply oq_gtrF);exact rfl;exact rfl;omega)|(apply oq_fn;exact rfl;first|exact trivial|(and_intros<;>omega)|omega|skip)|((with_reducible apply oq_load);exact rfl;exact rfl))|((with_reducible apply tl_id);first|(with_reducible apply tl_nil)|((with_reducible apply u_q);(iterate 4 exact rfl)))|((with_reducible apply rd_id);first|(apply Rd.own;(repeat first|exact P0|apply P1);exact rfl;done))|((with_reducible apply t_id);first|(with_reducible apply t_seq)|(apply t_region;kernel_rfl)|((with_reducible apply t_condF);exact rfl)|(with_reducible apply t_skip))|with_reducible apply q_thenN)
   all_goals exact ⟨by trivial,(),trivial,by (repeat first|exact FrSub.nil|(apply FrSub.cons;exact rfl)),by (repeat' (first|exact HpSub.refl _|(apply HpSub.consE;(repeat first|exact P0|apply P1);first|exact rfl|(simp;done))|apply HpSub.skipX))⟩
 rintro ⟨⟩ -
 have hnq:=nxP_eq (ln:=fun _=>(lenV zh.x zh.y).toNat) (ln':=(lnG (lnL L) p.1)) (n:=nR) (n':=p.1.length) (x:=(h,me)) hlh.symm (by omega)
 rw [hnq] at HAF
 obtain ⟨o,ho⟩:∃ o,nxP (lnG (lnL L) p.1) p.1.length (h,me)=o:=⟨_,rfl⟩
 rw [ho] at HAF
 rcases o with _|⟨i,mi⟩
 · simp only [ptO] at HAF
   repeat' (first|((with_reducible apply oq_id);first|(apply oq_fn;exact rfl;first|exact trivial|(and_intros<;>omega)|omega|skip)|((with_reducible apply oq_loadAgg);exact rfl;exact rfl)|((with_reducible apply oq_call (hc:=Tryz.call47));exact rfl;exact rfl;exact fun D w1 hw1=>HAF w1 hw1.ext.ext))|((with_reducible apply tl_id);first|(with_reducible apply tl_nil)|((with_reducible apply u_q);(iterate 4 exact rfl))|((with_reducible apply u_s0);exact rfl;exact rfl)|((with_reducible apply u_s);(iterate 3 exact rfl)))|((with_reducible apply os_id);first|((with_reducible apply os_x);exact rfl)|((with_reducible apply os_storeAgg);(iterate 5 exact rfl)))|((with_reducible apply ox_id);first|((with_reducible apply ox_alloc);exact rfl;intro _))|((with_reducible apply rd_id);first|(apply Rd.own;(repeat first|exact P0|apply P1);exact rfl;done))|((with_reducible apply t_id);first|(with_reducible apply t_seq)|(apply t_region;kernel_rfl)|((with_reducible apply t_condT);exact rfl)|(with_reducible apply t_ret))|with_reducible apply q_thenN|with_reducible apply q_thenR|exact P0|exact Rdn.zero|apply Rdn.succ|((with_reducible apply Norm.nil);exact rfl)|((with_reducible apply Norm.cons);exact rfl)|(with_reducible apply end_ret)|exact rvs_nil|(with_reducible apply rvs_cons)|((with_reducible apply rv_tmp);exact rfl)|exact Nat.le_of_ble_eq_true rfl)
   all_goals rfl
 · simp only [ptO] at HAF
   obtain ⟨hi,hmi⟩:=nxP_in ho hh
   simp only at hi hmi
   have hq2:=hnx _ ho
   simp only at hq2
   unfold hpL eqP at hq2
   rw [decide_eq_false_iff_not,t1] at hq2
   obtain ⟨ri,hri⟩:∃ r,rs[i]?=some r:=⟨_,List.getElem?_eq_getElem (by omega)⟩
   obtain ⟨zi,ti,ki,_,_,ei,rfl,hzi,_⟩:=t4 i ri hri
   have hli:lnG (lnL L) p.1 i=(lenV zi.x zi.y).toNat:=by unfold lnG lnL;rw [ei];simp only;rw [hzi]
   have lbi:=lenV_bound (hLk zi (List.mem_of_getElem? hzi)).2.2.2.1 (hLk zi (List.mem_of_getElem? hzi)).2.2.2.2.1
   rw [hli] at hmi
   have HB2:=fun w1 (hx:Ext w w1)=>bill_calls AM A m cM n cp L w1 (hr.ext hx) hn6 hm6 v q1 q2 q3 q4 g0 g1 AC nC cC C (hrc.ext hx) hs hE AR nR cR rs (hR.ext hx) h20 p hti s hs0' hop' i mi (by omega) (fun x hxp=>by have hq:=hli;unfold lnG at hq;rw [hxp] at hq;simp only at hq;omega) (by omega)
   generalize (atF (bilL v q1 q2 q3 g0 g1 C L) (lnL L) p.1 i mi rs.length)=at2 at HB2 hq2
   obtain ⟨⟨c1',c2'⟩,⟨c3',c4'⟩,c5',c6'⟩:=at2
   simp only at HB2 hq2
   repeat' (first|((with_reducible apply oq_id);first|((with_reducible apply oq_gtrT);exact rfl;exact rfl;omega)|(apply oq_fn;exact rfl;first|exact trivial|(and_intros<;>omega)|omega|skip)|((with_reducible apply oq_load);exact rfl;exact rfl)|((with_reducible apply oq_loadAgg);exact rfl;exact rfl)|((with_reducible apply oq_call (hc:=Tryz.call47));exact rfl;exact rfl;exact fun D w1 hw1=>HAF w1 hw1.ext.ext)|((with_reducible apply oq_call (hc:=Tryz.call46));exact rfl;exact rfl;exact fun D w1 hw1=>HB2 w1 hw1.ext.ext))|((with_reducible apply tl_id);first|(with_reducible apply tl_nil)|((with_reducible apply u_q);(iterate 4 exact rfl))|((with_reducible apply u_s0);exact rfl;exact rfl)|((with_reducible apply u_s);(iterate 3 exact rfl)))|((with_reducible apply os_id);first|((with_reducible apply os_x);exact rfl)|((with_reducible apply os_storeAgg);(iterate 5 exact rfl)))|((with_reducible apply ox_id);first|((with_reducible apply ox_alloc);exact rfl;intro _))|((with_reducible apply rd_id);first|(apply Rd.own;(repeat first|exact P0|apply P1);exact rfl;done))|((with_reducible apply t_id);first|(with_reducible apply t_seq)|(apply t_region;kernel_rfl)|((with_reducible apply t_condF);exact rfl)|(with_reducible apply t_ret)|(with_reducible apply t_skip))|with_reducible apply q_thenN|exact P0|(with_reducible apply P1)|exact Rdn.zero|apply Rdn.succ|((with_reducible apply Norm.nil);exact rfl)|((with_reducible apply Norm.cons);exact rfl)|(with_reducible apply end_ret)|exact rvs_nil|(with_reducible apply rvs_cons)|((with_reducible apply rv_tmp);exact rfl)|exact Nat.le_of_ble_eq_true rfl)
   all_goals rfl
end Go.Proofs.YtcjkndjjbjoehaaGreat
namespace Go.Proofs.YtcjkndjjbjoehaaGreat
open Go.ChangeShapes Go.WideShapes Go.ChangeAt Go.RowKit
theorem Tryz.own:ownKnob Tryz.prog.godebug=none:=by kernel_rfl
theorem Tryz.laidOut:laidOutB Tryz.prog=true:=by kernel_rfl
section
variable {H:Type} {enc:TypeId×Value→H} {P:Program}
theorem trodAll_ext (hl:laidOutB P=true) {W W':World} (hb:Ext W W'):∀ {ts:List TypeId} {vs:List Value} {ds:List (DataW H)} {p:List MemPlace},(ts.all fun t=>P.readableRec t && decide (t<P.types.size))=true →
   DataW.TrodAll enc P W 0 (fun _=>true) true ts vs ds p→(∀ x∈p,x.block<W.heap.size)→DataW.TrodAll enc P W' 0 (fun b=>decide (b<W.heap.size)) true ts vs ds p
 | [],vs,ds,p,_,h,_=>by
   obtain ⟨rfl,rfl,rfl⟩:=trodAll_nil h
   exact trodAll_mk0
 | t::ts,vs,ds,p,ht,h,hlt=>by
   obtain ⟨v,vs',d,ds',p0,q0,rfl,rfl,rfl,h1,h2⟩:=trodAll_cons h
   simp only [List.all_cons,Bool.and_eq_true,decide_eq_true_eq] at ht
   exact ⟨p0,q0,Below.trod hl ht.1.1 ht.1.2 h1 hb (fun x hx=>hlt x (List.mem_append_left _ hx)),trodAll_ext hl hb ht.2 h2 (fun x hx=>hlt x (List.mem_append_right _ hx)),rfl⟩
end
end Go.Proofs.YtcjkndjjbjoehaaGreat
