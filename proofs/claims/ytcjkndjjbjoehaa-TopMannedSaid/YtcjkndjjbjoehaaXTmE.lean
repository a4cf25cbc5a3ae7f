/- A part of the proof: rules for walks, and contracts of functions (5). -/
import Derived.Test.YtcjkndjjbjoehaaXTmC
import Derived.Test.YtcjkndjjbjoehaaXTmD
import Derived.Test.YtcjkndjjbjoehaaXTmB
set_option linter.unusedVariables false
set_option linter.unusedSimpArgs false
set_option maxRecDepth 100000
set_option maxHeartbeats 2000000
namespace Go.Proofs.Ytcjkndjjbjoehaa
open Go.RowKit
attribute [local irreducible] OQ OS OX Rd T TL GX GL AL AI RV wpG SAny Calls
structure Lg where
 a:Int
 b:Int
 x:Int
 y:Int
 h:Int
def lgCells (z:Lg):List Value:=[.int .i64 z.a,.int .i64 z.b,.int .i64 z.x,.int .i64 z.y,.int .i64 z.h]
theorem lg_read {w:World} {A:Option Addr} {n:Nat} {l:List Lg} (h:RdS w 5 A n (l.map lgCells)) {i:Nat} (hi:i<n) :
   ∃ b o x,A=some ⟨b,o,none⟩∧b<w.heap.size∧l[i]?=some x∧w.cell? ⟨b,o+i*5,none⟩=some (.int .i64 x.a)∧w.cell? ⟨b,o+i*5+1,none⟩=some (.int .i64 x.b)∧w.cell? ⟨b,o+i*5+2,none⟩=some (.int .i64 x.x) ∧
     w.cell? ⟨b,o+i*5+3,none⟩=some (.int .i64 x.y)∧w.cell? ⟨b,o+i*5+4,none⟩=some (.int .i64 x.h):=by
 obtain ⟨b,o,cs,hA,hb,hx,_,hc⟩:=h.row hi
 simp only [List.getElem?_map,Option.map_eq_some_iff] at hx
 obtain ⟨x,hx,rfl⟩:=hx
 exact ⟨b,o,x,hA,hb,hx,hc 0 _ rfl,hc 1 _ rfl,hc 2 _ rfl,hc 3 _ rfl,hc 4 _ rfl⟩
def LegOk (m:Nat) (z:Lg):Prop:=(0≤z.a∧z.a≤(m:Int)-1)∧(0≤z.b∧z.b≤(m:Int)-1)∧z.a≠z.b∧(-7000≤z.x∧z.x≤7000)∧(-7000≤z.y∧z.y≤7000)∧¬ (z.x=0∧z.y=0)∧(-500≤z.h∧z.h≤9000)
instance (m:Nat) (z:Lg):Decidable (LegOk m z):=by unfold LegOk;exact inferInstance
def chartB (m:Nat) (L:List Lg):Bool:=decide (1≤(m:Int)∧(m:Int)≤12) && (decide (L.length≤40) && L.all fun z=>decide (LegOk m z))
theorem chartB_iff {m:Nat} {L:List Lg}:chartB m L=true↔(1≤(m:Int)∧(m:Int)≤12)∧L.length≤40∧∀ z∈L,LegOk m z:=by
 unfold chartB
 simp only [Bool.and_eq_true,decide_eq_true_eq,List.all_eq_true]
theorem chartB_no {m:Nat} {L:List Lg} {j:Nat} {z:Lg} (hz:L[j]?=some z) (h:¬ LegOk m z):chartB m L=false:=by
 cases e:chartB m L with
 | false=>rfl
 | true=>exact absurd ((chartB_iff.1 e).2.2 z (List.mem_of_getElem? hz)) h
theorem take_okL {L:List Lg} {p:Lg→Prop} {j:Nat} {x:Lg} (h:∀ y∈L.take j,p y) (hx:L[j]?=some x) (hp:p x):∀ y∈L.take (j+1),p y:=by
 rw [List.take_add_one,hx]
 intro y hy
 rcases List.mem_append.1 hy with hy|hy
 · exact h y hy
 · have:y=x:=by simpa using hy
   rw [this];exact hp
theorem rfrom1_t {w0:World} {M:Ms} {H H':Hp} {w:World} {g:Nat} {x lo hi:Int} {tg:Tg} {cp:Nat} (hq:lo≤x∧x≤hi) (h:Has w0 M H w) (p:Pick H g [.int .i64 x] tg H') :
   Calls Try.prog 45 #[.int .i64 lo,.int .i64 hi,.slice (some ⟨g,0,none⟩) 1 cp] w fun e w'=>e=.returned (.bool true)∧Ext w w':=by
 have:=rfrom_calls lo hi (some ⟨g,0,none⟩) 1 cp [x] w (int_rows rfl h p) (by omega)
 rwa [show allFrom lo hi [x]=true by simp [allFrom];omega] at this
theorem rfrom1_f {w0:World} {M:Ms} {H H':Hp} {w:World} {g:Nat} {x lo hi:Int} {tg:Tg} {cp:Nat} (hq:¬ (lo≤x∧x≤hi)) (h:Has w0 M H w) (p:Pick H g [.int .i64 x] tg H') :
   Calls Try.prog 45 #[.int .i64 lo,.int .i64 hi,.slice (some ⟨g,0,none⟩) 1 cp] w fun e w'=>e=.returned (.bool false)∧Ext w w':=by
 have:=rfrom_calls lo hi (some ⟨g,0,none⟩) 1 cp [x] w (int_rows rfl h p) (by omega)
 rwa [show allFrom lo hi [x]=false by simp [allFrom];omega] at this
theorem rfrom2_t {w0:World} {M:Ms} {H H':Hp} {w:World} {g:Nat} {x y lo hi:Int} {tg:Tg} {cp:Nat} (hq:(lo≤x∧x≤hi)∧(lo≤y∧y≤hi)) (h:Has w0 M H w) (p:Pick H g [.int .i64 x,.int .i64 y] tg H') :
   Calls Try.prog 45 #[.int .i64 lo,.int .i64 hi,.slice (some ⟨g,0,none⟩) 2 cp] w fun e w'=>e=.returned (.bool true)∧Ext w w':=by
 have:=rfrom_calls lo hi (some ⟨g,0,none⟩) 2 cp [x,y] w (int_rows rfl h p) (by omega)
 rwa [show allFrom lo hi [x,y]=true by simp [allFrom];omega] at this
theorem rfrom2_f {w0:World} {M:Ms} {H H':Hp} {w:World} {g:Nat} {x y lo hi:Int} {tg:Tg} {cp:Nat} (hq:¬ ((lo≤x∧x≤hi)∧(lo≤y∧y≤hi))) (h:Has w0 M H w) (p:Pick H g [.int .i64 x,.int .i64 y] tg H') :
   Calls Try.prog 45 #[.int .i64 lo,.int .i64 hi,.slice (some ⟨g,0,none⟩) 2 cp] w fun e w'=>e=.returned (.bool false)∧Ext w w':=by
 have:=rfrom_calls lo hi (some ⟨g,0,none⟩) 2 cp [x,y] w (int_rows rfl h p) (by omega)
 rwa [show allFrom lo hi [x,y]=false by simp [allFrom];omega] at this
theorem checkChart_calls (AM A:Option Addr) (m cM n cp:Nat) (L:List Lg) (w:World) (hr:RdS w 5 A n (L.map lgCells)) (hn:n≤1000000) (hm:m≤1000000):Calls Try.prog 18 #[.agg #[.slice AM m cM,.slice A n cp]] w fun e w'=>e=.returned (.int .i64 (if chartB m L then 0 else 61))∧Ext w w':=by
 have hl:L.length=n:=by simpa using hr.len
 by_cases h1:1≤(m:Int)∧(m:Int)≤12
 rotate_left
 · have e:chartB m L=false:=by cases e:chartB m L with|false=>rfl|true=>exact absurd (chartB_iff.1 e).1 h1
   rw [e]
   refine enterQ (c:=cx w 69) Try.func18 rfl rfl rfl rfl ?_
   repeat' (first|((with_reducible apply oq_id);first|(apply oq_fn;exact rfl;first|exact trivial|(and_intros<;>omega)|omega|skip)|((with_reducible apply oq_load);exact rfl;exact rfl)|((with_reducible apply oq_call (hc:=Try.call45));exact rfl;exact rfl;(intro D w1 hw1;refine rfrom1_f ?_ hw1 (by (repeat first|exact P0|apply P1));omega)))|((with_reducible apply tl_id);first|(with_reducible apply tl_nil)|((with_reducible apply u_q);(iterate 4 exact rfl))|((with_reducible apply u_s);(iterate 3 exact rfl))|((with_reducible apply u_skip);(iterate 3 exact rfl)))|((with_reducible apply os_id);first|((with_reducible apply os_x);exact rfl))|((with_reducible apply ox_id);first|((with_reducible apply ox_boxAgg);exact rfl;intro _)|((with_reducible apply ox_buildSlice1);(iterate 6 exact rfl);intro _))|((with_reducible apply rd_id);first|(apply Rd.own;(repeat first|exact P0|apply P1);exact rfl;done))|((with_reducible apply t_id);first|(with_reducible apply t_seq)|(apply t_region;kernel_rfl)|((with_reducible apply t_condT);exact rfl)|(with_reducible apply t_ret))|with_reducible apply q_thenN|with_reducible apply q_thenR|(with_reducible apply end_ret)|exact rvs_nil|(with_reducible apply rvs_cons)|((with_reducible apply rv_tmp);exact rfl))
   all_goals rfl
 by_cases h2:n≤40
 rotate_left
 · have e:chartB m L=false:=by cases e:chartB m L with|false=>rfl|true=>exact absurd (chartB_iff.1 e).2.1 (by omega)
   rw [e]
   refine enterQ (c:=cx w 69) Try.func18 rfl rfl rfl rfl ?_
   repeat' (first|((with_reducible apply oq_id);first|((with_reducible apply oq_gtrT);exact rfl;exact rfl;omega)|(apply oq_fn;exact rfl;first|exact trivial|(and_intros<;>omega)|omega|skip)|((with_reducible apply oq_load);exact rfl;exact rfl)|((with_reducible apply oq_call (hc:=Try.call45));exact rfl;exact rfl;(intro D w1 hw1;refine rfrom1_t ?_ hw1 (by (repeat first|exact P0|apply P1));omega)))|((with_reducible apply tl_id);first|(with_reducible apply tl_nil)|((with_reducible apply u_q);(iterate 4 exact rfl))|((with_reducible apply u_s);(iterate 3 exact rfl)))|((with_reducible apply os_id);first|((with_reducible apply os_x);exact rfl))|((with_reducible apply ox_id);first|((with_reducible apply ox_boxAgg);exact rfl;intro _)|((with_reducible apply ox_buildSlice1);(iterate 6 exact rfl);intro _))|((with_reducible apply rd_id);first|(apply Rd.own;(repeat first|exact P0|apply P1);exact rfl;done))|((with_reducible apply t_id);first|(with_reducible apply t_seq)|(apply t_region;kernel_rfl)|((with_reducible apply t_condT);exact rfl)|(with_reducible apply t_ret))|with_reducible apply q_thenN|with_reducible apply q_thenR|(with_reducible apply end_ret)|exact rvs_nil|(with_reducible apply rvs_cons)|((with_reducible apply rv_tmp);exact rfl))
   all_goals rfl
 refine enterQ (c:=cx w 69) Try.func18 rfl rfl rfl rfl ?_
 repeat' (first|((with_reducible apply oq_id);first|((with_reducible apply oq_gtrF);exact rfl;exact rfl;omega)|(apply oq_fn;exact rfl;first|exact trivial|(and_intros<;>omega)|omega|skip)|((with_reducible apply oq_load);exact rfl;exact rfl)|((with_reducible apply oq_call (hc:=Try.call45));exact rfl;exact rfl;(intro D w1 hw1;refine rfrom1_t ?_ hw1 (by (repeat first|exact P0|apply P1));omega)))|((with_reducible apply tl_id);first|(with_reducible apply tl_nil)|((with_reducible apply u_q);(iterate 4 exact rfl))|((with_reducible apply u_s);(iterate 3 exact rfl)))|((with_reducible apply os_id);first|((with_reducible apply os_x);exact rfl))|((with_reducible apply ox_id);first|((with_reducible apply ox_boxAgg);exact rfl;intro _)|((with_reducible apply ox_buildSlice1);(iterate 6 exact rfl);intro _))|((with_reducible apply rd_id);first|(apply Rd.own;(repeat first|exact P0|apply P1);exact rfl;done))|((with_reducible apply t_id);first|(with_reducible apply t_seq)|(apply t_region;kernel_rfl)|((with_reducible apply t_condF);exact rfl)|(with_reducible apply t_skip)|(with_reducible apply t_block))|with_reducible apply q_thenN)
 apply t_loopK (ι:=Nat) [3,20,21] (fun j=>[(22,.int .i64 ((j:Nat):Int))]) (fun j=>[]) (fun j=>j≤n∧∀ z∈L.take j,LegOk m z) (fun j=>n-j) (0)
 (repeat (first|exact KeepF.nil|(apply KeepF.cons;exact rfl)|apply KeepF.skip))
 (repeat first|exact FrSub.nil|(apply FrSub.cons;exact rfl))
 (repeat (first|exact HpSub.refl _|(apply HpSub.consE;(repeat first|exact P0|apply P1);exact rfl)|exact HpSub.nil))
 · exact ⟨Nat.zero_le _,fun y hy=>by simp at hy⟩
 rintro j ⟨hj,hok⟩
 try simp only [List.cons_append,List.nil_append]
 by_cases hjn:j<n
 · obtain ⟨b,o,z,rfl,_,hz,c0,c1,c2,c3,c4⟩:=lg_read hr hjn
   by_cases k1:0≤z.a∧z.a≤(m:Int)-1
   rotate_left
   · have e:chartB m L=false:=chartB_no hz (fun e=>by unfold LegOk at e;omega)
     rw [e]
     repeat' (first|((with_reducible apply oq_id);first|(focus ((with_reducible apply (oq_subE (k:=(m:Int)-1)));exact rfl;exact rfl;omega))|(focus ((with_reducible apply oq_indexAddrN);(iterate 4 exact rfl);omega))|((with_reducible apply oq_lssT);exact rfl;exact rfl;omega)|(apply oq_fn;exact rfl;first|exact trivial|(and_intros<;>omega)|omega|skip)|((with_reducible apply oq_load);exact rfl;exact rfl)|((with_reducible apply oq_loadAgg);exact rfl;exact rfl)|((with_reducible apply oq_call (hc:=Try.call45));exact rfl;exact rfl;(intro D w1 hw1;refine rfrom2_f ?_ hw1 (by (repeat first|exact P0|apply P1));omega)))|((with_reducible apply tl_id);first|(with_reducible apply tl_nil)|((with_reducible apply u_q);(iterate 4 exact rfl))|((with_reducible apply u_s0);exact rfl;exact rfl)|((with_reducible apply u_s);(iterate 3 exact rfl))|((with_reducible apply u_skip);(iterate 3 exact rfl)))|((with_reducible apply os_id);first|((with_reducible apply os_x);exact rfl)|((with_reducible apply os_storeAgg);(iterate 5 exact rfl)))|((with_reducible apply ox_id);first|((with_reducible apply ox_alloc);exact rfl;intro _)|((with_reducible apply ox_buildSlice1);(iterate 6 exact rfl);intro _))|((with_reducible apply rd_id);first|(apply Rd.own;(repeat first|exact P0|apply P1);exact rfl;done)|(apply Rd.old;(first|(with_reducible assumption)|exact c0|exact c1|exact c2|exact c3|exact c4|exact c5|exact c6|exact c7|exact c8|exact d0|exact d1|exact d2|exact d3|exact d4|exact d5);first|exact List.not_mem_nil|exact m0|exact m1|exact m2|exact m3|exact m4|exact m5|exact m6|exact m7|exact m8|exact m9))|((with_reducible apply t_id);first|(with_reducible apply t_seq)|(apply t_region;kernel_rfl)|((with_reducible apply t_condT);exact rfl)|(with_reducible apply t_ret)|(with_reducible apply t_skip)|(with_reducible apply t_block))|with_reducible apply q_thenN|with_reducible apply q_thenR|with_reducible apply q_blockR|exact P0|exact Rdn.zero|apply Rdn.succ|((with_reducible apply Norm.nil);exact rfl)|((with_reducible apply Norm.cons);exact rfl)|(with_reducible apply end_ret)|exact rvs_nil|(with_reducible apply rvs_cons)|((with_reducible apply rv_tmp);exact rfl)|exact Nat.le_of_ble_eq_true rfl)
     all_goals rfl
   by_cases k2:0≤z.b∧z.b≤(m:Int)-1
   rotate_left
   · have e:chartB m L=false:=chartB_no hz (fun e=>by unfold LegOk at e;omega)
     rw [e]
     repeat' (first|((with_reducible apply oq_id);first|(focus ((with_reducible apply (oq_subE (k:=(m:Int)-1)));exact rfl;exact rfl;omega))|(focus ((with_reducible apply oq_indexAddrN);(iterate 4 exact rfl);omega))|((with_reducible apply oq_lssT);exact rfl;exact rfl;omega)|(apply oq_fn;exact rfl;first|exact trivial|(and_intros<;>omega)|omega|skip)|((with_reducible apply oq_load);exact rfl;exact rfl)|((with_reducible apply oq_loadAgg);exact rfl;exact rfl)|((with_reducible apply oq_call (hc:=Try.call45));exact rfl;exact rfl;(intro D w1 hw1;refine rfrom2_f ?_ hw1 (by (repeat first|exact P0|apply P1));omega)))|((with_reducible apply tl_id);first|(with_reducible apply tl_nil)|((with_reducible apply u_q);(iterate 4 exact rfl))|((with_reducible apply u_s0);exact rfl;exact rfl)|((with_reducible apply u_s);(iterate 3 exact rfl))|((with_reducible apply u_skip);(iterate 3 exact rfl)))|((with_reducible apply os_id);first|((with_reducible apply os_x);exact rfl)|((with_reducible apply os_storeAgg);(iterate 5 exact rfl)))|((with_reducible apply ox_id);first|((with_reducible apply ox_alloc);exact rfl;intro _)|((with_reducible apply ox_buildSlice1);(iterate 6 exact rfl);intro _))|((with_reducible apply rd_id);first|(apply Rd.own;(repeat first|exact P0|apply P1);exact rfl;done)|(apply Rd.old;(first|(with_reducible assumption)|exact c0|exact c1|exact c2|exact c3|exact c4|exact c5|exact c6|exact c7|exact c8|exact d0|exact d1|exact d2|exact d3|exact d4|exact d5);first|exact List.not_mem_nil|exact m0|exact m1|exact m2|exact m3|exact m4|exact m5|exact m6|exact m7|exact m8|exact m9))|((with_reducible apply t_id);first|(with_reducible apply t_seq)|(apply t_region;kernel_rfl)|((with_reducible apply t_condT);exact rfl)|(with_reducible apply t_ret)|(with_reducible apply t_skip)|(with_reducible apply t_block))|with_reducible apply q_thenN|with_reducible apply q_thenR|with_reducible apply q_blockR|exact P0|exact Rdn.zero|apply Rdn.succ|((with_reducible apply Norm.nil);exact rfl)|((with_reducible apply Norm.cons);exact rfl)|(with_reducible apply end_ret)|exact rvs_nil|(with_reducible apply rvs_cons)|((with_reducible apply rv_tmp);exact rfl)|exact Nat.le_of_ble_eq_true rfl)
     all_goals rfl
   by_cases k3:z.a≠z.b
   rotate_left
   · have e:chartB m L=false:=chartB_no hz (fun e=>by unfold LegOk at e;omega)
     rw [e]
     repeat' (first|((with_reducible apply oq_id);first|(focus ((with_reducible apply (oq_subE (k:=(m:Int)-1)));exact rfl;exact rfl;omega))|(focus ((with_reducible apply oq_indexAddrN);(iterate 4 exact rfl);omega))|((with_reducible apply oq_eqlT);exact rfl;exact rfl;omega)|((with_reducible apply oq_lssT);exact rfl;exact rfl;omega)|(apply oq_fn;exact rfl;first|exact trivial|(and_intros<;>omega)|omega|skip)|((with_reducible apply oq_load);exact rfl;exact rfl)|((with_reducible apply oq_loadAgg);exact rfl;exact rfl)|((with_reducible apply oq_call (hc:=Try.call45));exact rfl;exact rfl;(intro D w1 hw1;refine rfrom2_t ?_ hw1 (by (repeat first|exact P0|apply P1));omega)))|((with_reducible apply tl_id);first|(with_reducible apply tl_nil)|((with_reducible apply u_q);(iterate 4 exact rfl))|((with_reducible apply u_s0);exact rfl;exact rfl)|((with_reducible apply u_s);(iterate 3 exact rfl))|((with_reducible apply u_skip);(iterate 3 exact rfl)))|((with_reducible apply os_id);first|((with_reducible apply os_x);exact rfl)|((with_reducible apply os_storeAgg);(iterate 5 exact rfl)))|((with_reducible apply ox_id);first|((with_reducible apply ox_alloc);exact rfl;intro _)|((with_reducible apply ox_buildSlice1);(iterate 6 exact rfl);intro _))|((with_reducible apply rd_id);first|(apply Rd.own;(repeat first|exact P0|apply P1);exact rfl;done)|(apply Rd.old;(first|(with_reducible assumption)|exact c0|exact c1|exact c2|exact c3|exact c4|exact c5|exact c6|exact c7|exact c8|exact d0|exact d1|exact d2|exact d3|exact d4|exact d5);first|exact List.not_mem_nil|exact m0|exact m1|exact m2|exact m3|exact m4|exact m5|exact m6|exact m7|exact m8|exact m9))|((with_reducible apply t_id);first|(with_reducible apply t_seq)|(apply t_region;kernel_rfl)|((with_reducible apply t_condT);exact rfl)|(with_reducible apply t_ret)|(with_reducible apply t_skip)|(with_reducible apply t_block))|with_reducible apply q_thenN|with_reducible apply q_thenR|with_reducible apply q_blockR|exact P0|exact Rdn.zero|apply Rdn.succ|((with_reducible apply Norm.nil);exact rfl)|((with_reducible apply Norm.cons);exact rfl)|(with_reducible apply end_ret)|exact rvs_nil|(with_reducible apply rvs_cons)|((with_reducible apply rv_tmp);exact rfl)|exact Nat.le_of_ble_eq_true rfl)
     all_goals rfl
   by_cases k4 : -7000≤z.x∧z.x≤7000
   rotate_left
   · have e:chartB m L=false:=chartB_no hz (fun e=>by unfold LegOk at e;omega)
     rw [e]
     repeat' (first|((with_reducible apply oq_id);first|(focus ((with_reducible apply (oq_subE (k:=(m:Int)-1)));exact rfl;exact rfl;omega))|(focus ((with_reducible apply oq_indexAddrN);(iterate 4 exact rfl);omega))|((with_reducible apply oq_eqlF);exact rfl;exact rfl;omega)|((with_reducible apply oq_lssT);exact rfl;exact rfl;omega)|(apply oq_fn;exact rfl;first|exact trivial|(and_intros<;>omega)|omega|skip)|((with_reducible apply oq_load);exact rfl;exact rfl)|((with_reducible apply oq_loadAgg);exact rfl;exact rfl)|((with_reducible apply oq_call (hc:=Try.call45));exact rfl;exact rfl;(intro D w1 hw1;refine rfrom2_t ?_ hw1 (by (repeat first|exact P0|apply P1));omega))|((with_reducible apply oq_call (hc:=Try.call45));exact rfl;exact rfl;(intro D w1 hw1;refine rfrom2_f ?_ hw1 (by (repeat first|exact P0|apply P1));omega)))|((with_reducible apply tl_id);first|(with_reducible apply tl_nil)|((with_reducible apply u_q);(iterate 4 exact rfl))|((with_reducible apply u_s0);exact rfl;exact rfl)|((with_reducible apply u_s);(iterate 3 exact rfl))|((with_reducible apply u_skip);(iterate 3 exact rfl)))|((with_reducible apply os_id);first|((with_reducible apply os_x);exact rfl)|((with_reducible apply os_storeAgg);(iterate 5 exact rfl)))|((with_reducible apply ox_id);first|((with_reducible apply ox_alloc);exact rfl;intro _)|((with_reducible apply ox_buildSlice1);(iterate 6 exact rfl);intro _))|((with_reducible apply rd_id);first|(apply Rd.own;(repeat first|exact P0|apply P1);exact rfl;done)|(apply Rd.old;(first|(with_reducible assumption)|exact c0|exact c1|exact c2|exact c3|exact c4|exact c5|exact c6|exact c7|exact c8|exact d0|exact d1|exact d2|exact d3|exact d4|exact d5);first|exact List.not_mem_nil|exact m0|exact m1|exact m2|exact m3|exact m4|exact m5|exact m6|exact m7|exact m8|exact m9))|((with_reducible apply t_id);first|(with_reducible apply t_seq)|(apply t_region;kernel_rfl)|((with_reducible apply t_condT);exact rfl)|(with_reducible apply t_ret)|(with_reducible apply t_skip)|(with_reducible apply t_block))|with_reducible apply q_thenN|with_reducible apply q_thenR|with_reducible apply q_blockR|exact P0|exact Rdn.zero|apply Rdn.succ|((with_reducible apply Norm.nil);exact rfl)|((with_reducible apply Norm.cons);exact rfl)|(with_reducible apply end_ret)|exact rvs_nil|(with_reducible apply rvs_cons)|((with_reducible apply rv_tmp);exact rfl)|exact Nat.le_of_ble_eq_true rfl)
     all_goals rfl
   by_cases k5 : -7000≤z.y∧z.y≤7000
   rotate_left
   · have e:chartB m L=false:=chartB_no hz (fun e=>by unfold LegOk at e;omega)
     rw [e]
     repeat' (first|((with_reducible apply oq_id);first|(focus ((with_reducible apply (oq_subE (k:=(m:Int)-1)));exact rfl;exact rfl;omega))|(focus ((with_reducible apply oq_indexAddrN);(iterate 4 exact rfl);omega))|((with_reducible apply oq_eqlF);exact rfl;exact rfl;omega)|((with_reducible apply oq_lssT);exact rfl;exact rfl;omega)|(apply oq_fn;exact rfl;first|exact trivial|(and_intros<;>omega)|omega|skip)|((with_reducible apply oq_load);exact rfl;exact rfl)|((with_reducible apply oq_loadAgg);exact rfl;exact rfl)|((with_reducible apply oq_call (hc:=Try.call45));exact rfl;exact rfl;(intro D w1 hw1;refine rfrom2_t ?_ hw1 (by (repeat first|exact P0|apply P1));omega))|((with_reducible apply oq_call (hc:=Try.call45));exact rfl;exact rfl;(intro D w1 hw1;refine rfrom2_f ?_ hw1 (by (repeat first|exact P0|apply P1));omega)))|((with_reducible apply tl_id);first|(with_reducible apply tl_nil)|((with_reducible apply u_q);(iterate 4 exact rfl))|((with_reducible apply u_s0);exact rfl;exact rfl)|((with_reducible apply u_s);(iterate 3 exact rfl))|((with_reducible apply u_skip);(iterate 3 exact rfl)))|((with_reducible apply os_id);first|((with_reducible apply os_x);exact rfl)|((with_reducible apply os_storeAgg);(iterate 5 exact rfl)))|((with_reducible apply ox_id);first|((with_reducible apply ox_alloc);exact rfl;intro _)|((with_reducible apply ox_buildSlice1);(iterate 6 exact rfl);intro _))|((with_reducible apply rd_id);first|(apply Rd.own;(repeat first|exact P0|apply P1);exact rfl;done)|(apply Rd.old;(first|(with_reducible assumption)|exact c0|exact c1|exact c2|exact c3|exact c4|exact c5|exact c6|exact c7|exact c8|exact d0|exact d1|exact d2|exact d3|exact d4|exact d5);first|exact List.not_mem_nil|exact m0|exact m1|exact m2|exact m3|exact m4|exact m5|exact m6|exact m7|exact m8|exact m9))|((with_reducible apply t_id);first|(with_reducible apply t_seq)|(apply t_region;kernel_rfl)|((with_reducible apply t_condT);exact rfl)|(with_reducible apply t_ret)|(with_reducible apply t_skip)|(with_reducible apply t_block))|with_reducible apply q_thenN|with_reducible apply q_thenR|with_reducible apply q_blockR|exact P0|exact Rdn.zero|apply Rdn.succ|((with_reducible apply Norm.nil);exact rfl)|((with_reducible apply Norm.cons);exact rfl)|(with_reducible apply end_ret)|exact rvs_nil|(with_reducible apply rvs_cons)|((with_reducible apply rv_tmp);exact rfl)|exact Nat.le_of_ble_eq_true rfl)
     all_goals rfl
   by_cases hz0:z.x=0
   · by_cases hz1:z.y=0
     · have e:chartB m L=false:=chartB_no hz (fun e=>by unfold LegOk at e;omega)
       rw [e]
       repeat' (first|((with_reducible apply oq_id);first|(focus ((with_reducible apply (oq_subE (k:=(m:Int)-1)));exact rfl;exact rfl;omega))|(focus ((with_reducible apply oq_indexAddrN);(iterate 4 exact rfl);omega))|((with_reducible apply oq_eqlT);exact rfl;exact rfl;omega)|((with_reducible apply oq_eqlF);exact rfl;exact rfl;omega)|((with_reducible apply oq_lssT);exact rfl;exact rfl;omega)|(apply oq_fn;exact rfl;first|exact trivial|(and_intros<;>omega)|omega|skip)|((with_reducible apply oq_load);exact rfl;exact rfl)|((with_reducible apply oq_loadAgg);exact rfl;exact rfl)|((with_reducible apply oq_call (hc:=Try.call45));exact rfl;exact rfl;(intro D w1 hw1;refine rfrom2_t ?_ hw1 (by (repeat first|exact P0|apply P1));omega)))|((with_reducible apply tl_id);first|(with_reducible apply tl_nil)|((with_reducible apply u_q);(iterate 4 exact rfl))|((with_reducible apply u_s0);exact rfl;exact rfl)|((with_reducible apply u_s);(iterate 3 exact rfl))|((with_reducible apply u_skip);(iterate 3 exact rfl)))|((with_reducible apply os_id);first|((with_reducible apply os_x);exact rfl)|((with_reducible apply os_storeAgg);(iterate 5 exact rfl)))|((with_reducible apply ox_id);first|((with_reducible apply ox_alloc);exact rfl;intro _)|((with_reducible apply ox_buildSlice1);(iterate 6 exact rfl);intro _))|((with_reducible apply rd_id);first|(apply Rd.own;(repeat first|exact P0|apply P1);exact rfl;done)|(apply Rd.old;(first|(with_reducible assumption)|exact c0|exact c1|exact c2|exact c3|exact c4|exact c5|exact c6|exact c7|exact c8|exact d0|exact d1|exact d2|exact d3|exact d4|exact d5);first|exact List.not_mem_nil|exact m0|exact m1|exact m2|exact m3|exact m4|exact m5|exact m6|exact m7|exact m8|exact m9))|((with_reducible apply t_id);first|(with_reducible apply t_seq)|(apply t_region;kernel_rfl)|((with_reducible apply t_condT);exact rfl)|(with_reducible apply t_ret)|(with_reducible apply t_skip)|(with_reducible apply t_block))|with_reducible apply q_thenN|with_reducible apply q_thenR|with_reducible apply q_blockR|exact P0|exact Rdn.zero|apply Rdn.succ|((with_reducible apply Norm.nil);exact rfl)|((with_reducible apply Norm.cons);exact rfl)|(with_reducible apply end_ret)|exact rvs_nil|(with_reducible apply rvs_cons)|((with_reducible apply rv_tmp);exact rfl)|exact Nat.le_of_ble_eq_true rfl)
       all_goals rfl
     ·
       by_cases k6 : -500≤z.h∧z.h≤9000
       rotate_left
       · have e:chartB m L=false:=chartB_no hz (fun e=>by unfold LegOk at e;omega)
         rw [e]
         repeat' (first|((with_reducible apply oq_id);first|(focus ((with_reducible apply (oq_subE (k:=(m:Int)-1)));exact rfl;exact rfl;omega))|(focus ((with_reducible apply oq_indexAddrN);(iterate 4 exact rfl);omega))|((with_reducible apply oq_eqlT);exact rfl;exact rfl;omega)|((with_reducible apply oq_eqlF);exact rfl;exact rfl;omega)|((with_reducible apply oq_lssT);exact rfl;exact rfl;omega)|(apply oq_fn;exact rfl;first|exact trivial|(and_intros<;>omega)|omega|skip)|((with_reducible apply oq_load);exact rfl;exact rfl)|((with_reducible apply oq_loadAgg);exact rfl;exact rfl)|((with_reducible apply oq_call (hc:=Try.call45));exact rfl;exact rfl;(intro D w1 hw1;refine rfrom1_f ?_ hw1 (by (repeat first|exact P0|apply P1));omega))|((with_reducible apply oq_call (hc:=Try.call45));exact rfl;exact rfl;(intro D w1 hw1;refine rfrom2_t ?_ hw1 (by (repeat first|exact P0|apply P1));omega)))|((with_reducible apply tl_id);first|(with_reducible apply tl_nil)|((with_reducible apply u_q);(iterate 4 exact rfl))|((with_reducible apply u_s0);exact rfl;exact rfl)|((with_reducible apply u_s);(iterate 3 exact rfl)))|((with_reducible apply os_id);first|((with_reducible apply os_x);exact rfl)|((with_reducible apply os_storeAgg);(iterate 5 exact rfl)))|((with_reducible apply ox_id);first|((with_reducible apply ox_alloc);exact rfl;intro _)|((with_reducible apply ox_buildSlice1);(iterate 6 exact rfl);intro _))|((with_reducible apply rd_id);first|(apply Rd.own;(repeat first|exact P0|apply P1);exact rfl;done)|(apply Rd.old;(first|(with_reducible assumption)|exact c0|exact c1|exact c2|exact c3|exact c4|exact c5|exact c6|exact c7|exact c8|exact d0|exact d1|exact d2|exact d3|exact d4|exact d5);first|exact List.not_mem_nil|exact m0|exact m1|exact m2|exact m3|exact m4|exact m5|exact m6|exact m7|exact m8|exact m9))|((with_reducible apply t_id);first|(with_reducible apply t_seq)|(apply t_region;kernel_rfl)|((with_reducible apply t_condT);exact rfl)|(with_reducible apply t_ret)|(with_reducible apply t_skip)|(with_reducible apply t_block))|with_reducible apply q_thenN|with_reducible apply q_thenR|with_reducible apply q_blockR|exact P0|exact Rdn.zero|apply Rdn.succ|((with_reducible apply Norm.nil);exact rfl)|((with_reducible apply Norm.cons);exact rfl)|(with_reducible apply end_ret)|exact rvs_nil|(with_reducible apply rvs_cons)|((with_reducible apply rv_tmp);exact rfl)|exact Nat.le_of_ble_eq_true rfl)
         all_goals rfl
       repeat' (first|((with_reducible apply oq_id);first|(focus ((with_reducible apply (oq_subE (k:=(m:Int)-1)));exact rfl;exact rfl;omega))|(focus ((with_reducible apply oq_indexAddrN);(iterate 4 exact rfl);omega))|((with_reducible apply oq_eqlT);exact rfl;exact rfl;omega)|((with_reducible apply oq_eqlF);exact rfl;exact rfl;omega)|((with_reducible apply oq_lssT);exact rfl;exact rfl;omega)|(apply oq_fn;exact rfl;first|exact trivial|(and_intros<;>omega)|omega|skip)|((with_reducible apply oq_load);exact rfl;exact rfl)|((with_reducible apply oq_loadAgg);exact rfl;exact rfl)|((with_reducible apply oq_call (hc:=Try.call45));exact rfl;exact rfl;(intro D w1 hw1;refine rfrom1_t ?_ hw1 (by (repeat first|exact P0|apply P1));omega))|((with_reducible apply oq_call (hc:=Try.call45));exact rfl;exact rfl;(intro D w1 hw1;refine rfrom2_t ?_ hw1 (by (repeat first|exact P0|apply P1));omega)))|((with_reducible apply tl_id);first|(with_reducible apply tl_nil)|((with_reducible apply u_q);(iterate 4 exact rfl))|((with_reducible apply u_s0);exact rfl;exact rfl)|((with_reducible apply u_s);(iterate 3 exact rfl)))|((with_reducible apply os_id);first|((with_reducible apply os_x);exact rfl)|((with_reducible apply os_storeAgg);(iterate 5 exact rfl)))|((with_reducible apply ox_id);first|((with_reducible apply ox_alloc);exact rfl;intro _)|((with_reducible apply ox_buildSlice1);(iterate 6 exact rfl);intro _))|((with_reducible apply rd_id);first|(apply Rd.own;(repeat first|exact P0|apply P1);exact rfl;done)|(apply Rd.old;(first|(with_reducible assumption)|exact c0|exact c1|exact c2|exact c3|exact c4|exact c5|exact c6|exact c7|exact c8|exact d0|exact d1|exact d2|exact d3|exact d4|exact d5);first|exact List.not_mem_nil|exact m0|exact m1|exact m2|exact m3|exact m4|exact m5|exact m6|exact m7|exact m8|exact m9))|((with_reducible apply t_id);first|(with_reducible apply t_seq)|(apply t_region;kernel_rfl)|((with_reducible apply t_condT);exact rfl)|((with_reducible apply t_condF);exact rfl)|(with_reducible apply t_skip)|(with_reducible apply t_block))|with_reducible apply q_thenN|with_reducible apply q_blockN|exact P0|exact Rdn.zero|apply Rdn.succ|((with_reducible apply Norm.nil);exact rfl)|((with_reducible apply Norm.cons);exact rfl)|exact Nat.le_of_ble_eq_true rfl)
       all_goals (refine ⟨j+1,⟨by omega,take_okL hok hz ⟨k1,k2,k3,k4,k5,(by omega),k6⟩⟩,(by omega),?_,?_⟩<;>(try simp only [List.cons_append,List.nil_append])<;>(repeat' (first|exact FrSub.nil|(apply FrSub.cons;exact rfl)|(apply HpSub.consE;(repeat first|exact P0|apply P1);exact rfl)|exact HpSub.nil)))
   ·
     by_cases k6 : -500≤z.h∧z.h≤9000
     rotate_left
     · have e:chartB m L=false:=chartB_no hz (fun e=>by unfold LegOk at e;omega)
       rw [e]
       repeat' (first|((with_reducible apply oq_id);first|(focus ((with_reducible apply (oq_subE (k:=(m:Int)-1)));exact rfl;exact rfl;omega))|(focus ((with_reducible apply oq_indexAddrN);(iterate 4 exact rfl);omega))|((with_reducible apply oq_eqlF);exact rfl;exact rfl;omega)|((with_reducible apply oq_lssT);exact rfl;exact rfl;omega)|(apply oq_fn;exact rfl;first|exact trivial|(and_intros<;>omega)|omega|skip)|((with_reducible apply oq_load);exact rfl;exact rfl)|((with_reducible apply oq_loadAgg);exact rfl;exact rfl)|((with_reducible apply oq_call (hc:=Try.call45));exact rfl;exact rfl;(intro D w1 hw1;refine rfrom1_f ?_ hw1 (by (repeat first|exact P0|apply P1));omega))|((with_reducible apply oq_call (hc:=Try.call45));exact rfl;exact rfl;(intro D w1 hw1;refine rfrom2_t ?_ hw1 (by (repeat first|exact P0|apply P1));omega)))|((with_reducible apply tl_id);first|(with_reducible apply tl_nil)|((with_reducible apply u_q);(iterate 4 exact rfl))|((with_reducible apply u_s0);exact rfl;exact rfl)|((with_reducible apply u_s);(iterate 3 exact rfl))|((with_reducible apply u_skip);(iterate 3 exact rfl)))|((with_reducible apply os_id);first|((with_reducible apply os_x);exact rfl)|((with_reducible apply os_storeAgg);(iterate 5 exact rfl)))|((with_reducible apply ox_id);first|((with_reducible apply ox_alloc);exact rfl;intro _)|((with_reducible apply ox_buildSlice1);(iterate 6 exact rfl);intro _))|((with_reducible apply rd_id);first|(apply Rd.own;(repeat first|exact P0|apply P1);exact rfl;done)|(apply Rd.old;(first|(with_reducible assumption)|exact c0|exact c1|exact c2|exact c3|exact c4|exact c5|exact c6|exact c7|exact c8|exact d0|exact d1|exact d2|exact d3|exact d4|exact d5);first|exact List.not_mem_nil|exact m0|exact m1|exact m2|exact m3|exact m4|exact m5|exact m6|exact m7|exact m8|exact m9))|((with_reducible apply t_id);first|(with_reducible apply t_seq)|(apply t_region;kernel_rfl)|((with_reducible apply t_condT);exact rfl)|(with_reducible apply t_ret)|(with_reducible apply t_skip)|(with_reducible apply t_block))|with_reducible apply q_thenN|with_reducible apply q_thenR|with_reducible apply q_blockR|exact P0|exact Rdn.zero|apply Rdn.succ|((with_reducible apply Norm.nil);exact rfl)|((with_reducible apply Norm.cons);exact rfl)|(with_reducible apply end_ret)|exact rvs_nil|(with_reducible apply rvs_cons)|((with_reducible apply rv_tmp);exact rfl)|exact Nat.le_of_ble_eq_true rfl)
       all_goals rfl
     repeat' (first|((with_reducible apply oq_id);first|(focus ((with_reducible apply (oq_subE (k:=(m:Int)-1)));exact rfl;exact rfl;omega))|(focus ((with_reducible apply oq_indexAddrN);(iterate 4 exact rfl);omega))|((with_reducible apply oq_eqlF);exact rfl;exact rfl;omega)|((with_reducible apply oq_lssT);exact rfl;exact rfl;omega)|(apply oq_fn;exact rfl;first|exact trivial|(and_intros<;>omega)|omega|skip)|((with_reducible apply oq_load);exact rfl;exact rfl)|((with_reducible apply oq_loadAgg);exact rfl;exact rfl)|((with_reducible apply oq_call (hc:=Try.call45));exact rfl;exact rfl;(intro D w1 hw1;refine rfrom1_t ?_ hw1 (by (repeat first|exact P0|apply P1));omega))|((with_reducible apply oq_call (hc:=Try.call45));exact rfl;exact rfl;(intro D w1 hw1;refine rfrom2_t ?_ hw1 (by (repeat first|exact P0|apply P1));omega)))|((with_reducible apply tl_id);first|(with_reducible apply tl_nil)|((with_reducible apply u_q);(iterate 4 exact rfl))|((with_reducible apply u_s0);exact rfl;exact rfl)|((with_reducible apply u_s);(iterate 3 exact rfl))|((with_reducible apply u_skip);(iterate 3 exact rfl)))|((with_reducible apply os_id);first|((with_reducible apply os_x);exact rfl)|((with_reducible apply os_storeAgg);(iterate 5 exact rfl)))|((with_reducible apply ox_id);first|((with_reducible apply ox_alloc);exact rfl;intro _)|((with_reducible apply ox_buildSlice1);(iterate 6 exact rfl);intro _))|((with_reducible apply rd_id);first|(apply Rd.own;(repeat first|exact P0|apply P1);exact rfl;done)|(apply Rd.old;(first|(with_reducible assumption)|exact c0|exact c1|exact c2|exact c3|exact c4|exact c5|exact c6|exact c7|exact c8|exact d0|exact d1|exact d2|exact d3|exact d4|exact d5);first|exact List.not_mem_nil|exact m0|exact m1|exact m2|exact m3|exact m4|exact m5|exact m6|exact m7|exact m8|exact m9))|((with_reducible apply t_id);first|(with_reducible apply t_seq)|(apply t_region;kernel_rfl)|((with_reducible apply t_condT);exact rfl)|((with_reducible apply t_condF);exact rfl)|(with_reducible apply t_skip)|(with_reducible apply t_block))|with_reducible apply q_thenN|with_reducible apply q_blockN|exact P0|exact Rdn.zero|apply Rdn.succ|((with_reducible apply Norm.nil);exact rfl)|((with_reducible apply Norm.cons);exact rfl)|exact Nat.le_of_ble_eq_true rfl)
     all_goals (refine ⟨j+1,⟨by omega,take_okL hok hz ⟨k1,k2,k3,k4,k5,(by omega),k6⟩⟩,(by omega),?_,?_⟩<;>(try simp only [List.cons_append,List.nil_append])<;>(repeat' (first|exact FrSub.nil|(apply FrSub.cons;exact rfl)|(apply HpSub.consE;(repeat first|exact P0|apply P1);exact rfl)|exact HpSub.nil)))
 · obtain rfl:j=n:=by omega
   rw [List.take_of_length_le (by omega)] at hok
   have e:chartB m L=true:=chartB_iff.2 ⟨h1,by omega,hok⟩
   rw [e]
   repeat' (first|((with_reducible apply oq_id);first|((with_reducible apply oq_lssF);exact rfl;exact rfl;omega)|(apply oq_fn;exact rfl;first|exact trivial|(and_intros<;>omega)|omega|skip))|((with_reducible apply tl_id);first|(with_reducible apply tl_nil)|((with_reducible apply u_q);(iterate 4 exact rfl)))|((with_reducible apply t_id);first|(with_reducible apply t_seq)|(apply t_region;kernel_rfl)|((with_reducible apply t_condF);exact rfl)|(with_reducible apply t_ret)|(with_reducible apply t_exit))|with_reducible apply q_thenN|with_reducible apply q_thenE|((with_reducible apply q_blockE);exact rfl)|(with_reducible apply end_ret)|exact rvs_nil|(with_reducible apply rvs_cons)|((with_reducible apply rv_tmp);exact rfl))
   all_goals rfl
def PaceOk (v q1 q2 q3 q4 g0 g1:Int):Prop:=(1≤v∧v≤1000)∧(-500≤q1∧q1≤9000)∧(-500≤q3∧q3≤9000)∧(0≤q2∧q2≤2000)∧(0≤q4∧q4≤1000000000)∧(0≤g0∧g0≤g1∧g1≤1000000)
instance (v q1 q2 q3 q4 g0 g1:Int):Decidable (PaceOk v q1 q2 q3 q4 g0 g1):=by unfold PaceOk;exact inferInstance
def paceB (v q1 q2 q3 q4 g0 g1:Int):Bool:=decide (PaceOk v q1 q2 q3 q4 g0 g1)
structure Wn where
 A:Option Addr
 n:Nat
 c:Nat
 l:List Gl
def wnCells (x:Wn):List Value:=[.slice x.A x.n x.c]
structure CastR (w:World) (A:Option Addr) (n:Nat) (L:List Wn):Prop where
 rows:RdS w 1 A n (L.map wnCells)
 each:∀ x∈L,RdS w 6 x.A x.n (x.l.map glCells)∧x.n≤x.c
theorem CastR.ext {w w':World} {A:Option Addr} {n:Nat} {L:List Wn} (h:CastR w A n L) (hx:Ext w w'):CastR w' A n L:=⟨h.rows.ext hx,fun x hm=>⟨(h.each x hm).1.ext hx,(h.each x hm).2⟩⟩
theorem CastR.len {w:World} {A:Option Addr} {n:Nat} {L:List Wn} (h:CastR w A n L):L.length=n:=by simpa using h.rows.len
theorem CastR.read {w:World} {A:Option Addr} {n:Nat} {l:List Wn} (h:CastR w A n l) {i:Nat} (hi:i<n) :
   ∃ b o x,A=some ⟨b,o,none⟩∧b<w.heap.size∧l[i]?=some x∧w.cell? ⟨b,o+i*1,none⟩=some (.slice x.A x.n x.c)∧RdS w 6 x.A x.n (x.l.map glCells)∧x.n≤x.c:=by
 obtain ⟨b,o,cs,hA,hb,hx,_,hc⟩:=h.rows.row hi
 simp only [List.getElem?_map,Option.map_eq_some_iff] at hx
 obtain ⟨x,hx,rfl⟩:=hx
 exact ⟨b,o,x,hA,hb,hx,hc 0 _ rfl,h.each x (List.mem_of_getElem? hx)⟩
def castE (L:List Wn):Int:=if 1≤(L.length:Int)∧(L.length:Int)≤4 then (if L.all fun x=>windB x.l then 0 else 22) else 4
theorem castE_no {L:List Wn} {j:Nat} {x:Wn} (h1:1≤(L.length:Int)∧(L.length:Int)≤4) (hx:L[j]?=some x) (h:windB x.l=false):castE L=22:=by
 unfold castE
 rw [if_pos h1,if_neg]
 intro e
 have:=List.all_eq_true.1 e x (List.mem_of_getElem? hx)
 rw [h] at this;cases this
theorem castE_zero {L:List Wn}:castE L=0↔(1≤(L.length:Int)∧(L.length:Int)≤4)∧∀ x∈L,windB x.l=true:=by
 unfold castE
 by_cases h1:1≤(L.length:Int)∧(L.length:Int)≤4
 · rw [if_pos h1]
   by_cases h2:(L.all fun x=>windB x.l)=true
   · rw [if_pos h2];exact ⟨fun _=>⟨h1,fun x hx=>List.all_eq_true.1 h2 x hx⟩,fun _=>rfl⟩
   · rw [if_neg h2];exact ⟨fun e=>(by cases e),fun e=>absurd (List.all_eq_true.2 e.2) h2⟩
 · rw [if_neg h1];exact ⟨fun e=>(by cases e),fun e=>absurd e.1 h1⟩
theorem take_okW {L:List Wn} {p:Wn→Prop} {j:Nat} {x:Wn} (h:∀ y∈L.take j,p y) (hx:L[j]?=some x) (hp:p x):∀ y∈L.take (j+1),p y:=by
 rw [List.take_add_one,hx]
 intro y hy
 rcases List.mem_append.1 hy with hy|hy
 · exact h y hy
 · have:y=x:=by simpa using hy
   rw [this];exact hp
noncomputable def lenV (x y:Int):Int:=(rootV (10000*(x*x+y*y)) (10000*(x*x+y*y))).2.1
def Small (m n:Nat) (L:List Wn):Prop:=m≤20∧n≤50∧L.length≤8∧∀ x∈L,x.n≤24
instance (m n:Nat) (L:List Wn):Decidable (Small m n L):=by unfold Small;exact inferInstance
theorem checkPace_calls (v q1 q2 q3 q4 g0 g1:Int) (w:World):Calls Try.prog 20 #[.agg #[.int .i64 v,.int .i64 q1,.int .i64 q2,.int .i64 q3,.int .i64 q4,.int .i64 g0,.int .i64 g1]] w fun e w'=>e=.returned (.int .i64 (if paceB v q1 q2 q3 q4 g0 g1 then 0 else 62))∧Ext w w':=by
 by_cases a1:1≤v∧v≤1000
 rotate_left
 · have e:paceB v q1 q2 q3 q4 g0 g1=false:=decide_eq_false (fun e=>by unfold PaceOk at e;omega)
   rw [e]
   refine enterQ (c:=cx w 50) Try.func20 rfl rfl rfl rfl ?_
   repeat' (first|((with_reducible apply oq_id);first|(apply oq_fn;exact rfl;first|exact trivial|(and_intros<;>omega)|omega|skip)|((with_reducible apply oq_load);exact rfl;exact rfl)|((with_reducible apply oq_call (hc:=Try.call45));exact rfl;exact rfl;(intro D w1 hw1;refine rfrom1_f ?_ hw1 (by (repeat first|exact P0|apply P1));omega)))|((with_reducible apply tl_id);first|(with_reducible apply tl_nil)|((with_reducible apply u_q);(iterate 4 exact rfl))|((with_reducible apply u_s);(iterate 3 exact rfl))|((with_reducible apply u_skip);(iterate 3 exact rfl)))|((with_reducible apply os_id);first|((with_reducible apply os_x);exact rfl))|((with_reducible apply ox_id);first|((with_reducible apply ox_boxAgg);exact rfl;intro _)|((with_reducible apply ox_buildSlice1);(iterate 6 exact rfl);intro _))|((with_reducible apply rd_id);first|(apply Rd.own;(repeat first|exact P0|apply P1);exact rfl;done))|((with_reducible apply t_id);first|(with_reducible apply t_seq)|(apply t_region;kernel_rfl)|((with_reducible apply t_condT);exact rfl)|(with_reducible apply t_ret))|with_reducible apply q_thenN|with_reducible apply q_thenR|(with_reducible apply end_ret)|exact rvs_nil|(with_reducible apply rvs_cons)|((with_reducible apply rv_tmp);exact rfl))
   all_goals rfl
 by_cases a2 : -500≤q1∧q1≤9000
 rotate_left
 · have e:paceB v q1 q2 q3 q4 g0 g1=false:=decide_eq_false (fun e=>by unfold PaceOk at e;omega)
   rw [e]
   refine enterQ (c:=cx w 50) Try.func20 rfl rfl rfl rfl ?_
   repeat' (first|((with_reducible apply oq_id);first|(apply oq_fn;exact rfl;first|exact trivial|(and_intros<;>omega)|omega|skip)|((with_reducible apply oq_load);exact rfl;exact rfl)|((with_reducible apply oq_call (hc:=Try.call45));exact rfl;exact rfl;(intro D w1 hw1;refine rfrom1_t ?_ hw1 (by (repeat first|exact P0|apply P1));omega))|((with_reducible apply oq_call (hc:=Try.call45));exact rfl;exact rfl;(intro D w1 hw1;refine rfrom2_f ?_ hw1 (by (repeat first|exact P0|apply P1));omega)))|((with_reducible apply tl_id);first|(with_reducible apply tl_nil)|((with_reducible apply u_q);(iterate 4 exact rfl))|((with_reducible apply u_s);(iterate 3 exact rfl))|((with_reducible apply u_skip);(iterate 3 exact rfl)))|((with_reducible apply os_id);first|((with_reducible apply os_x);exact rfl))|((with_reducible apply ox_id);first|((with_reducible apply ox_boxAgg);exact rfl;intro _)|((with_reducible apply ox_buildSlice1);(iterate 6 exact rfl);intro _))|((with_reducible apply rd_id);first|(apply Rd.own;(repeat first|exact P0|apply P1);exact rfl;done))|((with_reducible apply t_id);first|(with_reducible apply t_seq)|(apply t_region;kernel_rfl)|((with_reducible apply t_condT);exact rfl)|(with_reducible apply t_ret))|with_reducible apply q_thenN|with_reducible apply q_thenR|(with_reducible apply end_ret)|exact rvs_nil|(with_reducible apply rvs_cons)|((with_reducible apply rv_tmp);exact rfl))
   all_goals rfl
 by_cases a3 : -500≤q3∧q3≤9000
 rotate_left
 · have e:paceB v q1 q2 q3 q4 g0 g1=false:=decide_eq_false (fun e=>by unfold PaceOk at e;omega)
   rw [e]
   refine enterQ (c:=cx w 50) Try.func20 rfl rfl rfl rfl ?_
   repeat' (first|((with_reducible apply oq_id);first|(apply oq_fn;exact rfl;first|exact trivial|(and_intros<;>omega)|omega|skip)|((with_reducible apply oq_load);exact rfl;exact rfl)|((with_reducible apply oq_call (hc:=Try.call45));exact rfl;exact rfl;(intro D w1 hw1;refine rfrom1_t ?_ hw1 (by (repeat first|exact P0|apply P1));omega))|((with_reducible apply oq_call (hc:=Try.call45));exact rfl;exact rfl;(intro D w1 hw1;refine rfrom2_f ?_ hw1 (by (repeat first|exact P0|apply P1));omega)))|((with_reducible apply tl_id);first|(with_reducible apply tl_nil)|((with_reducible apply u_q);(iterate 4 exact rfl))|((with_reducible apply u_s);(iterate 3 exact rfl))|((with_reducible apply u_skip);(iterate 3 exact rfl)))|((with_reducible apply os_id);first|((with_reducible apply os_x);exact rfl))|((with_reducible apply ox_id);first|((with_reducible apply ox_boxAgg);exact rfl;intro _)|((with_reducible apply ox_buildSlice1);(iterate 6 exact rfl);intro _))|((with_reducible apply rd_id);first|(apply Rd.own;(repeat first|exact P0|apply P1);exact rfl;done))|((with_reducible apply t_id);first|(with_reducible apply t_seq)|(apply t_region;kernel_rfl)|((with_reducible apply t_condT);exact rfl)|(with_reducible apply t_ret))|with_reducible apply q_thenN|with_reducible apply q_thenR|(with_reducible apply end_ret)|exact rvs_nil|(with_reducible apply rvs_cons)|((with_reducible apply rv_tmp);exact rfl))
   all_goals rfl
 by_cases a4:0≤q2∧q2≤2000
 rotate_left
 · have e:paceB v q1 q2 q3 q4 g0 g1=false:=decide_eq_false (fun e=>by unfold PaceOk at e;omega)
   rw [e]
   refine enterQ (c:=cx w 50) Try.func20 rfl rfl rfl rfl ?_
   repeat' (first|((with_reducible apply oq_id);first|(apply oq_fn;exact rfl;first|exact trivial|(and_intros<;>omega)|omega|skip)|((with_reducible apply oq_load);exact rfl;exact rfl)|((with_reducible apply oq_call (hc:=Try.call45));exact rfl;exact rfl;(intro D w1 hw1;refine rfrom1_t ?_ hw1 (by (repeat first|exact P0|apply P1));omega))|((with_reducible apply oq_call (hc:=Try.call45));exact rfl;exact rfl;(intro D w1 hw1;refine rfrom1_f ?_ hw1 (by (repeat first|exact P0|apply P1));omega))|((with_reducible apply oq_call (hc:=Try.call45));exact rfl;exact rfl;(intro D w1 hw1;refine rfrom2_t ?_ hw1 (by (repeat first|exact P0|apply P1));omega)))|((with_reducible apply tl_id);first|(with_reducible apply tl_nil)|((with_reducible apply u_q);(iterate 4 exact rfl))|((with_reducible apply u_s);(iterate 3 exact rfl))|((with_reducible apply u_skip);(iterate 3 exact rfl)))|((with_reducible apply os_id);first|((with_reducible apply os_x);exact rfl))|((with_reducible apply ox_id);first|((with_reducible apply ox_boxAgg);exact rfl;intro _)|((with_reducible apply ox_buildSlice1);(iterate 6 exact rfl);intro _))|((with_reducible apply rd_id);first|(apply Rd.own;(repeat first|exact P0|apply P1);exact rfl;done))|((with_reducible apply t_id);first|(with_reducible apply t_seq)|(apply t_region;kernel_rfl)|((with_reducible apply t_condT);exact rfl)|(with_reducible apply t_ret))|with_reducible apply q_thenN|with_reducible apply q_thenR|(with_reducible apply end_ret)|exact rvs_nil|(with_reducible apply rvs_cons)|((with_reducible apply rv_tmp);exact rfl))
   all_goals rfl
 by_cases a5:0≤q4∧q4≤1000000000
 rotate_left
 · have e:paceB v q1 q2 q3 q4 g0 g1=false:=decide_eq_false (fun e=>by unfold PaceOk at e;omega)
   rw [e]
   refine enterQ (c:=cx w 50) Try.func20 rfl rfl rfl rfl ?_
   repeat' (first|((with_reducible apply oq_id);first|(apply oq_fn;exact rfl;first|exact trivial|(and_intros<;>omega)|omega|skip)|((with_reducible apply oq_load);exact rfl;exact rfl)|((with_reducible apply oq_call (hc:=Try.call45));exact rfl;exact rfl;(intro D w1 hw1;refine rfrom1_t ?_ hw1 (by (repeat first|exact P0|apply P1));omega))|((with_reducible apply oq_call (hc:=Try.call45));exact rfl;exact rfl;(intro D w1 hw1;refine rfrom1_f ?_ hw1 (by (repeat first|exact P0|apply P1));omega))|((with_reducible apply oq_call (hc:=Try.call45));exact rfl;exact rfl;(intro D w1 hw1;refine rfrom2_t ?_ hw1 (by (repeat first|exact P0|apply P1));omega)))|((with_reducible apply tl_id);first|(with_reducible apply tl_nil)|((with_reducible apply u_q);(iterate 4 exact rfl))|((with_reducible apply u_s);(iterate 3 exact rfl))|((with_reducible apply u_skip);(iterate 3 exact rfl)))|((with_reducible apply os_id);first|((with_reducible apply os_x);exact rfl))|((with_reducible apply ox_id);first|((with_reducible apply ox_boxAgg);exact rfl;intro _)|((with_reducible apply ox_buildSlice1);(iterate 6 exact rfl);intro _))|((with_reducible apply rd_id);first|(apply Rd.own;(repeat first|exact P0|apply P1);exact rfl;done))|((with_reducible apply t_id);first|(with_reducible apply t_seq)|(apply t_region;kernel_rfl)|((with_reducible apply t_condT);exact rfl)|(with_reducible apply t_ret))|with_reducible apply q_thenN|with_reducible apply q_thenR|(with_reducible apply end_ret)|exact rvs_nil|(with_reducible apply rvs_cons)|((with_reducible apply rv_tmp);exact rfl))
   all_goals rfl
 by_cases a6:(0≤g0∧g0≤1000000)∧(0≤g1∧g1≤1000000)
 rotate_left
 · have e:paceB v q1 q2 q3 q4 g0 g1=false:=decide_eq_false (fun e=>by unfold PaceOk at e;omega)
   rw [e]
   refine enterQ (c:=cx w 50) Try.func20 rfl rfl rfl rfl ?_
   repeat' (first|((with_reducible apply oq_id);first|(apply oq_fn;exact rfl;first|exact trivial|(and_intros<;>omega)|omega|skip)|((with_reducible apply oq_load);exact rfl;exact rfl)|((with_reducible apply oq_call (hc:=Try.call45));exact rfl;exact rfl;(intro D w1 hw1;refine rfrom1_t ?_ hw1 (by (repeat first|exact P0|apply P1));omega))|((with_reducible apply oq_call (hc:=Try.call45));exact rfl;exact rfl;(intro D w1 hw1;refine rfrom2_t ?_ hw1 (by (repeat first|exact P0|apply P1));omega))|((with_reducible apply oq_call (hc:=Try.call45));exact rfl;exact rfl;(intro D w1 hw1;refine rfrom2_f ?_ hw1 (by (repeat first|exact P0|apply P1));omega)))|((with_reducible apply tl_id);first|(with_reducible apply tl_nil)|((with_reducible apply u_q);(iterate 4 exact rfl))|((with_reducible apply u_s);(iterate 3 exact rfl))|((with_reducible apply u_skip);(iterate 3 exact rfl)))|((with_reducible apply os_id);first|((with_reducible apply os_x);exact rfl))|((with_reducible apply ox_id);first|((with_reducible apply ox_boxAgg);exact rfl;intro _)|((with_reducible apply ox_buildSlice1);(iterate 6 exact rfl);intro _))|((with_reducible apply rd_id);first|(apply Rd.own;(repeat first|exact P0|apply P1);exact rfl;done))|((with_reducible apply t_id);first|(with_reducible apply t_seq)|(apply t_region;kernel_rfl)|((with_reducible apply t_condT);exact rfl)|(with_reducible apply t_ret))|with_reducible apply q_thenN|with_reducible apply q_thenR|(with_reducible apply end_ret)|exact rvs_nil|(with_reducible apply rvs_cons)|((with_reducible apply rv_tmp);exact rfl))
   all_goals rfl
 by_cases a7:g0≤g1
 rotate_left
 · have e:paceB v q1 q2 q3 q4 g0 g1=false:=decide_eq_false (fun e=>by unfold PaceOk at e;omega)
   rw [e]
   refine enterQ (c:=cx w 50) Try.func20 rfl rfl rfl rfl ?_
   repeat' (first|((with_reducible apply oq_id);first|((with_reducible apply oq_gtrT);exact rfl;exact rfl;omega)|(apply oq_fn;exact rfl;first|exact trivial|(and_intros<;>omega)|omega|skip)|((with_reducible apply oq_load);exact rfl;exact rfl)|((with_reducible apply oq_call (hc:=Try.call45));exact rfl;exact rfl;(intro D w1 hw1;refine rfrom1_t ?_ hw1 (by (repeat first|exact P0|apply P1));omega))|((with_reducible apply oq_call (hc:=Try.call45));exact rfl;exact rfl;(intro D w1 hw1;refine rfrom2_t ?_ hw1 (by (repeat first|exact P0|apply P1));omega)))|((with_reducible apply tl_id);first|(with_reducible apply tl_nil)|((with_reducible apply u_q);(iterate 4 exact rfl))|((with_reducible apply u_s);(iterate 3 exact rfl)))|((with_reducible apply os_id);first|((with_reducible apply os_x);exact rfl))|((with_reducible apply ox_id);first|((with_reducible apply ox_boxAgg);exact rfl;intro _)|((with_reducible apply ox_buildSlice1);(iterate 6 exact rfl);intro _))|((with_reducible apply rd_id);first|(apply Rd.own;(repeat first|exact P0|apply P1);exact rfl;done))|((with_reducible apply t_id);first|(with_reducible apply t_seq)|(apply t_region;kernel_rfl)|((with_reducible apply t_condT);exact rfl)|(with_reducible apply t_ret))|with_reducible apply q_thenN|with_reducible apply q_thenR|(with_reducible apply end_ret)|exact rvs_nil|(with_reducible apply rvs_cons)|((with_reducible apply rv_tmp);exact rfl))
   all_goals rfl
 have e:paceB v q1 q2 q3 q4 g0 g1=true:=decide_eq_true (by unfold PaceOk;omega)
 rw [e]
 refine enterQ (c:=cx w 50) Try.func20 rfl rfl rfl rfl ?_
 repeat' (first|((with_reducible apply oq_id);first|((with_reducible apply oq_gtrF);exact rfl;exact rfl;omega)|(apply oq_fn;exact rfl;first|exact trivial|(and_intros<;>omega)|omega|skip)|((with_reducible apply oq_load);exact rfl;exact rfl)|((with_reducible apply oq_call (hc:=Try.call45));exact rfl;exact rfl;(intro D w1 hw1;refine rfrom1_t ?_ hw1 (by (repeat first|exact P0|apply P1));omega))|((with_reducible apply oq_call (hc:=Try.call45));exact rfl;exact rfl;(intro D w1 hw1;refine rfrom2_t ?_ hw1 (by (repeat first|exact P0|apply P1));omega)))|((with_reducible apply tl_id);first|(with_reducible apply tl_nil)|((with_reducible apply u_q);(iterate 4 exact rfl))|((with_reducible apply u_s);(iterate 3 exact rfl)))|((with_reducible apply os_id);first|((with_reducible apply os_x);exact rfl))|((with_reducible apply ox_id);first|((with_reducible apply ox_boxAgg);exact rfl;intro _)|((with_reducible apply ox_buildSlice1);(iterate 6 exact rfl);intro _))|((with_reducible apply rd_id);first|(apply Rd.own;(repeat first|exact P0|apply P1);exact rfl;done))|((with_reducible apply t_id);first|(with_reducible apply t_seq)|(apply t_region;kernel_rfl)|((with_reducible apply t_condF);exact rfl)|(with_reducible apply t_ret)|(with_reducible apply t_skip))|with_reducible apply q_thenN|(with_reducible apply end_ret)|exact rvs_nil|(with_reducible apply rvs_cons)|((with_reducible apply rv_tmp);exact rfl))
 all_goals rfl
theorem checkCast_calls (A:Option Addr) (n cp:Nat) (L:List Wn) (w:World) (hr:CastR w A n L) (hs:∀ x∈L,x.n≤1000000):Calls Try.prog 22 #[.slice A n cp] w fun e w'=>e=.returned (.int .i64 (castE L))∧Ext w w':=by
 have hl:=hr.len
 by_cases h1:1≤(n:Int)∧(n:Int)≤4
 rotate_left
 · have e:castE L=4:=by unfold castE;rw [if_neg (by omega)]
   rw [e]
   refine enterQ (c:=cx w 23) Try.func22 rfl rfl rfl rfl ?_
   repeat' (first|((with_reducible apply oq_id);first|(apply oq_fn;exact rfl;first|exact trivial|(and_intros<;>omega)|omega|skip)|((with_reducible apply oq_call (hc:=Try.call45));exact rfl;exact rfl;(intro D w1 hw1;refine rfrom1_f ?_ hw1 (by (repeat first|exact P0|apply P1));omega)))|((with_reducible apply tl_id);first|(with_reducible apply tl_nil)|((with_reducible apply u_q);(iterate 4 exact rfl))|((with_reducible apply u_s);(iterate 3 exact rfl)))|((with_reducible apply os_id);first|((with_reducible apply os_x);exact rfl))|((with_reducible apply ox_id);first|((with_reducible apply ox_buildSlice1);(iterate 6 exact rfl);intro _))|((with_reducible apply t_id);first|(with_reducible apply t_seq)|(apply t_region;kernel_rfl)|((with_reducible apply t_condT);exact rfl)|(with_reducible apply t_ret))|with_reducible apply q_thenN|with_reducible apply q_thenR|(with_reducible apply end_ret)|exact rvs_nil|(with_reducible apply rvs_cons)|((with_reducible apply rv_tmp);exact rfl))
   all_goals rfl
 refine enterQ (c:=cx w 23) Try.func22 rfl rfl rfl rfl ?_
 repeat' (first|((with_reducible apply oq_id);first|(apply oq_fn;exact rfl;first|exact trivial|(and_intros<;>omega)|omega|skip)|((with_reducible apply oq_call (hc:=Try.call45));exact rfl;exact rfl;(intro D w1 hw1;refine rfrom1_t ?_ hw1 (by (repeat first|exact P0|apply P1));omega)))|((with_reducible apply tl_id);first|(with_reducible apply tl_nil)|((with_reducible apply u_q);(iterate 4 exact rfl))|((with_reducible apply u_s);(iterate 3 exact rfl)))|((with_reducible apply os_id);first|((with_reducible apply os_x);exact rfl))|((with_reducible apply ox_id);first|((with_reducible apply ox_buildSlice1);(iterate 6 exact rfl);intro _))|((with_reducible apply t_id);first|(with_reducible apply t_seq)|(apply t_region;kernel_rfl)|((with_reducible apply t_condF);exact rfl)|(with_reducible apply t_skip)|(with_reducible apply t_block))|with_reducible apply q_thenN)
 apply t_loopK (ι:=Nat) [11,12] (fun j=>[(13,.int .i64 ((j:Nat):Int))]) (fun j=>[]) (fun j=>j≤n∧∀ x∈L.take j,windB x.l=true) (fun j=>n-j) (0)
 (repeat (first|exact KeepF.nil|(apply KeepF.cons;exact rfl)|apply KeepF.skip))
 (repeat first|exact FrSub.nil|(apply FrSub.cons;exact rfl))
 (repeat (first|exact HpSub.refl _|(apply HpSub.consE;(repeat first|exact P0|apply P1);exact rfl)|exact HpSub.nil))
 · exact ⟨Nat.zero_le _,fun y hy=>by simp at hy⟩
 rintro j ⟨hj,hok⟩
 try simp only [List.cons_append,List.nil_append]
 by_cases hjn:j<n
 · obtain ⟨b,o,x,rfl,_,hx,c0,hrx,hcx⟩:=hr.read hjn
   have HX:=fun w1 (e:Ext w w1)=>checkWinds_calls x.A x.n x.c x.l w1 (hrx.ext e) (hs x (List.mem_of_getElem? hx))
   cases hw:windB x.l with
   | false=>
     have e:castE L=22:=castE_no (by omega) hx hw
     rw [e]
     rw [hw] at HX
     repeat' (first|((with_reducible apply oq_id);first|(focus ((with_reducible apply oq_indexAddrN);(iterate 4 exact rfl);omega))|((with_reducible apply oq_lssT);exact rfl;exact rfl;omega)|(apply oq_fn;exact rfl;first|exact trivial|(and_intros<;>omega)|omega|skip)|((with_reducible apply oq_load);exact rfl;exact rfl)|((with_reducible apply oq_call (hc:=Try.call62));exact rfl;exact rfl;exact fun D w1 hw1=>HX w1 hw1.ext.ext))|((with_reducible apply tl_id);first|(with_reducible apply tl_nil)|((with_reducible apply u_q);(iterate 4 exact rfl)))|((with_reducible apply rd_id);first|(apply Rd.old;(first|(with_reducible assumption)|exact c0|exact c1|exact c2|exact c3|exact c4|exact c5|exact c6|exact c7|exact c8|exact d0|exact d1|exact d2|exact d3|exact d4|exact d5);first|exact List.not_mem_nil|exact m0|exact m1|exact m2|exact m3|exact m4|exact m5|exact m6|exact m7|exact m8|exact m9))|((with_reducible apply t_id);first|(with_reducible apply t_seq)|(apply t_region;kernel_rfl)|((with_reducible apply t_condT);exact rfl)|(with_reducible apply t_ret)|(with_reducible apply t_skip)|(with_reducible apply t_block))|with_reducible apply q_thenN|with_reducible apply q_thenR|with_reducible apply q_blockR|(with_reducible apply end_ret)|exact rvs_nil|(with_reducible apply rvs_cons)|((with_reducible apply rv_tmp);exact rfl))
     all_goals rfl
   | true=>
     rw [hw] at HX
     repeat' (first|((with_reducible apply oq_id);first|(focus ((with_reducible apply oq_indexAddrN);(iterate 4 exact rfl);omega))|((with_reducible apply oq_lssT);exact rfl;exact rfl;omega)|(apply oq_fn;exact rfl;first|exact trivial|(and_intros<;>omega)|omega|skip)|((with_reducible apply oq_load);exact rfl;exact rfl)|((with_reducible apply oq_call (hc:=Try.call62));exact rfl;exact rfl;exact fun D w1 hw1=>HX w1 hw1.ext.ext))|((with_reducible apply tl_id);first|(with_reducible apply tl_nil)|((with_reducible apply u_q);(iterate 4 exact rfl)))|((with_reducible apply rd_id);first|(apply Rd.old;(first|(with_reducible assumption)|exact c0|exact c1|exact c2|exact c3|exact c4|exact c5|exact c6|exact c7|exact c8|exact d0|exact d1|exact d2|exact d3|exact d4|exact d5);first|exact List.not_mem_nil|exact m0|exact m1|exact m2|exact m3|exact m4|exact m5|exact m6|exact m7|exact m8|exact m9))|((with_reducible apply t_id);first|(with_reducible apply t_seq)|(apply t_region;kernel_rfl)|((with_reducible apply t_condT);exact rfl)|((with_reducible apply t_condF);exact rfl)|(with_reducible apply t_skip)|(with_reducible apply t_block))|with_reducible apply q_thenN|with_reducible apply q_blockN)
     all_goals (refine ⟨j+1,⟨by omega,take_okW hok hx hw⟩,(by omega),?_,?_⟩<;>(try simp only [List.cons_append,List.nil_append])<;>(repeat' (first|exact FrSub.nil|(apply FrSub.cons;exact rfl)|exact HpSub.refl _)))
 · obtain rfl:j=n:=by omega
   rw [List.take_of_length_le (by omega)] at hok
   have e:castE L=0:=castE_zero.2 ⟨by omega,hok⟩
   rw [e]
   repeat' (first|((with_reducible apply oq_id);first|((with_reducible apply oq_lssF);exact rfl;exact rfl;omega)|(apply oq_fn;exact rfl;first|exact trivial|(and_intros<;>omega)|omega|skip))|((with_reducible apply tl_id);first|(with_reducible apply tl_nil)|((with_reducible apply u_q);(iterate 4 exact rfl)))|((with_reducible apply t_id);first|(with_reducible apply t_seq)|(apply t_region;kernel_rfl)|((with_reducible apply t_condF);exact rfl)|(with_reducible apply t_ret)|(with_reducible apply t_exit))|with_reducible apply q_thenN|with_reducible apply q_thenE|((with_reducible apply q_blockE);exact rfl)|(with_reducible apply end_ret)|exact rvs_nil|(with_reducible apply rvs_cons)|((with_reducible apply rv_tmp);exact rfl))
   all_goals rfl
theorem length_calls (a b x y h:Int) (hx : -7000≤x∧x≤7000) (hy : -7000≤y∧y≤7000) (w:World):Calls Try.prog 55 #[.agg #[.int .i64 a,.int .i64 b,.int .i64 x,.int .i64 y,.int .i64 h]] w fun e w'=>e=.returned (.int .i64 (lenV x y))∧Ext w w':=by
 have b1:=mul_abs (x:=x) (y:=x) (a:=7000) (b:=7000) (by omega) (by omega)
 have b2:=mul_abs (x:=y) (y:=y) (a:=7000) (b:=7000) (by omega) (by omega)
 have HR:=fun w1=>boundRoot_calls (10000*(x*x+y*y)) (10000*(x*x+y*y)) w1
 unfold lenV
 refine enterQ (c:=cx w 27) Try.func55 rfl rfl rfl rfl ?_
 repeat' (first|((with_reducible apply oq_id);first|(focus ((with_reducible apply (oq_mulE (k:=x*x)));(iterate 3 exact rfl);(refine ⟨?_,?_⟩<;>omega)))|(focus ((with_reducible apply (oq_mulE (k:=y*y)));(iterate 3 exact rfl);(refine ⟨?_,?_⟩<;>omega)))|(focus ((with_reducible apply (oq_addE (k:=x*x+y*y)));exact rfl;exact rfl;omega))|(focus ((with_reducible apply (oq_mulE (k:=10000*(x*x+y*y))));(iterate 3 exact rfl);(refine ⟨?_,?_⟩<;>omega)))|(apply oq_fn;exact rfl;first|exact trivial|(and_intros<;>omega)|omega|skip)|((with_reducible apply oq_load);exact rfl;exact rfl)|((with_reducible apply oq_call (hc:=Try.call74));exact rfl;exact rfl;exact fun D w1 hw1=>HR w1)|((with_reducible apply oq_build);(iterate 3 exact rfl)))|((with_reducible apply tl_id);first|(with_reducible apply tl_nil)|((with_reducible apply u_q);(iterate 4 exact rfl))|((with_reducible apply u_s0);exact rfl;exact rfl)|((with_reducible apply u_s);(iterate 3 exact rfl)))|((with_reducible apply os_id);first|((with_reducible apply os_x);exact rfl)|((with_reducible apply os_storeAgg);(iterate 5 exact rfl)))|((with_reducible apply ox_id);first|((with_reducible apply ox_alloc);exact rfl;intro _)|((with_reducible apply ox_boxAgg);exact rfl;intro _))|((with_reducible apply rd_id);first|(apply Rd.own;(repeat first|exact P0|apply P1);exact rfl;done))|((with_reducible apply t_id);first|(with_reducible apply t_seq)|(apply t_region;kernel_rfl)|(with_reducible apply t_ret))|with_reducible apply q_thenN|exact P0|((with_reducible apply Norm.nil);exact rfl)|((with_reducible apply Norm.cons);exact rfl)|(with_reducible apply end_ret)|exact rvs_nil|(with_reducible apply rvs_cons)|((with_reducible apply rv_tmp);exact rfl)|exact Nat.le_of_ble_eq_true rfl)
 all_goals rfl
theorem great_calls (AM AL:Option Addr) (m cM nL cL:Nat) (A:Option Addr) (n cp:Nat) (L:List Wn) (w:World) (hr:CastR w A n L):Calls Try.prog 13 #[.agg #[.slice AM m cM,.slice AL nL cL],.slice A n cp] w fun e w'=>e=.returned (.bool (!decide (Small m nL L)))∧Ext w w':=by
 have hl:=hr.len
 by_cases h1:20<m
 · rw [decide_eq_false (fun h:Small m nL L=>by have:=h.1;omega)]
   refine enterQ (c:=cx w 33) Try.func13 rfl rfl rfl rfl ?_
   repeat' (first|((with_reducible apply oq_id);first|((with_reducible apply oq_gtrT);exact rfl;exact rfl;omega)|(apply oq_fn;exact rfl;first|exact trivial|(and_intros<;>omega)|omega|skip)|((with_reducible apply oq_load);exact rfl;exact rfl))|((with_reducible apply tl_id);first|(with_reducible apply tl_nil)|((with_reducible apply u_q);(iterate 4 exact rfl))|((with_reducible apply u_s);(iterate 3 exact rfl))|((with_reducible apply u_skip);(iterate 3 exact rfl)))|((with_reducible apply os_id);first|((with_reducible apply os_x);exact rfl))|((with_reducible apply ox_id);first|((with_reducible apply ox_boxAgg);exact rfl;intro _))|((with_reducible apply rd_id);first|(apply Rd.own;(repeat first|exact P0|apply P1);exact rfl;done))|((with_reducible apply t_id);first|(with_reducible apply t_seq)|(apply t_region;kernel_rfl)|((with_reducible apply t_condT);exact rfl)|(with_reducible apply t_ret))|with_reducible apply q_thenN|with_reducible apply q_thenR|(with_reducible apply end_ret)|exact rvs_nil|(with_reducible apply rvs_cons)|((with_reducible apply rv_tmp);exact rfl))
   all_goals rfl
 by_cases h2:50<nL
 · rw [decide_eq_false (fun h:Small m nL L=>by have:=h.2.1;omega)]
   refine enterQ (c:=cx w 33) Try.func13 rfl rfl rfl rfl ?_
   repeat' (first|((with_reducible apply oq_id);first|((with_reducible apply oq_gtrT);exact rfl;exact rfl;omega)|((with_reducible apply oq_gtrF);exact rfl;exact rfl;omega)|(apply oq_fn;exact rfl;first|exact trivial|(and_intros<;>omega)|omega|skip)|((with_reducible apply oq_load);exact rfl;exact rfl))|((with_reducible apply tl_id);first|(with_reducible apply tl_nil)|((with_reducible apply u_q);(iterate 4 exact rfl))|((with_reducible apply u_s);(iterate 3 exact rfl))|((with_reducible apply u_skip);(iterate 3 exact rfl)))|((with_reducible apply os_id);first|((with_reducible apply os_x);exact rfl))|((with_reducible apply ox_id);first|((with_reducible apply ox_boxAgg);exact rfl;intro _))|((with_reducible apply rd_id);first|(apply Rd.own;(repeat first|exact P0|apply P1);exact rfl;done))|((with_reducible apply t_id);first|(with_reducible apply t_seq)|(apply t_region;kernel_rfl)|((with_reducible apply t_condT);exact rfl)|(with_reducible apply t_ret))|with_reducible apply q_thenN|with_reducible apply q_thenR|(with_reducible apply end_ret)|exact rvs_nil|(with_reducible apply rvs_cons)|((with_reducible apply rv_tmp);exact rfl))
   all_goals rfl
 by_cases h3:8<n
 · rw [decide_eq_false (fun h:Small m nL L=>by have:=h.2.2.1;omega)]
   refine enterQ (c:=cx w 33) Try.func13 rfl rfl rfl rfl ?_
   repeat' (first|((with_reducible apply oq_id);first|((with_reducible apply oq_gtrT);exact rfl;exact rfl;omega)|((with_reducible apply oq_gtrF);exact rfl;exact rfl;omega)|(apply oq_fn;exact rfl;first|exact trivial|(and_intros<;>omega)|omega|skip)|((with_reducible apply oq_load);exact rfl;exact rfl))|((with_reducible apply tl_id);first|(with_reducible apply tl_nil)|((with_reducible apply u_q);(iterate 4 exact rfl))|((with_reducible apply u_s);(iterate 3 exact rfl)))|((with_reducible apply os_id);first|((with_reducible apply os_x);exact rfl))|((with_reducible apply ox_id);first|((with_reducible apply ox_boxAgg);exact rfl;intro _))|((with_reducible apply rd_id);first|(apply Rd.own;(repeat first|exact P0|apply P1);exact rfl;done))|((with_reducible apply t_id);first|(with_reducible apply t_seq)|(apply t_region;kernel_rfl)|((with_reducible apply t_condT);exact rfl)|(with_reducible apply t_ret))|with_reducible apply q_thenN|with_reducible apply q_thenR|(with_reducible apply end_ret)|exact rvs_nil|(with_reducible apply rvs_cons)|((with_reducible apply rv_tmp);exact rfl))
   all_goals rfl
 refine enterQ (c:=cx w 33) Try.func13 rfl rfl rfl rfl ?_
 repeat' (first|((with_reducible apply oq_id);first|((with_reducible apply oq_gtrF);exact rfl;exact rfl;omega)|(apply oq_fn;exact rfl;first|exact trivial|(and_intros<;>omega)|omega|skip)|((with_reducible apply oq_load);exact rfl;exact rfl))|((with_reducible apply tl_id);first|(with_reducible apply tl_nil)|((with_reducible apply u_q);(iterate 4 exact rfl))|((with_reducible apply u_s);(iterate 3 exact rfl)))|((with_reducible apply os_id);first|((with_reducible apply os_x);exact rfl))|((with_reducible apply ox_id);first|((with_reducible apply ox_boxAgg);exact rfl;intro _))|((with_reducible apply rd_id);first|(apply Rd.own;(repeat first|exact P0|apply P1);exact rfl;done))|((with_reducible apply t_id);first|(with_reducible apply t_seq)|(apply t_region;kernel_rfl)|((with_reducible apply t_condF);exact rfl)|(with_reducible apply t_skip)|(with_reducible apply t_block))|with_reducible apply q_thenN)
 apply t_loopK (ι:=Nat) [1] (fun j=>[(5,.int .i64 ((j:Nat):Int))]) (fun j=>[]) (fun j=>j≤n∧∀ x∈L.take j,x.n≤24) (fun j=>n-j) (0)
 (repeat (first|exact KeepF.nil|(apply KeepF.cons;exact rfl)|apply KeepF.skip))
 (repeat first|exact FrSub.nil|(apply FrSub.cons;exact rfl))
 (repeat (first|exact HpSub.refl _|(apply HpSub.consE;(repeat first|exact P0|apply P1);exact rfl)|exact HpSub.nil))
 · exact ⟨Nat.zero_le _,fun y hy=>by simp at hy⟩
 rintro j ⟨hj,hok⟩
 try simp only [List.cons_append,List.nil_append]
 by_cases hjn:j<n
 · obtain ⟨b,o,x,rfl,_,hx,c0,hrx,hcx⟩:=hr.read hjn
   by_cases hb:24<x.n
   · rw [decide_eq_false (fun h:Small m nL L=>by have:=h.2.2.2 x (List.mem_of_getElem? hx);omega)]
     repeat' (first|((with_reducible apply oq_id);first|(focus ((with_reducible apply oq_indexAddrN);(iterate 4 exact rfl);omega))|((with_reducible apply oq_gtrT);exact rfl;exact rfl;omega)|((with_reducible apply oq_lssT);exact rfl;exact rfl;omega)|(apply oq_fn;exact rfl;first|exact trivial|(and_intros<;>omega)|omega|skip)|((with_reducible apply oq_load);exact rfl;exact rfl))|((with_reducible apply tl_id);first|(with_reducible apply tl_nil)|((with_reducible apply u_q);(iterate 4 exact rfl)))|((with_reducible apply rd_id);first|(apply Rd.old;(first|(with_reducible assumption)|exact c0|exact c1|exact c2|exact c3|exact c4|exact c5|exact c6|exact c7|exact c8|exact d0|exact d1|exact d2|exact d3|exact d4|exact d5);first|exact List.not_mem_nil|exact m0|exact m1|exact m2|exact m3|exact m4|exact m5|exact m6|exact m7|exact m8|exact m9))|((with_reducible apply t_id);first|(with_reducible apply t_seq)|(apply t_region;kernel_rfl)|((with_reducible apply t_condT);exact rfl)|(with_reducible apply t_ret)|(with_reducible apply t_skip)|(with_reducible apply t_block))|with_reducible apply q_thenN|with_reducible apply q_thenR|with_reducible apply q_blockR|(with_reducible apply end_ret)|exact rvs_nil|(with_reducible apply rvs_cons)|((with_reducible apply rv_tmp);exact rfl))
     all_goals rfl
   · repeat' (first|((with_reducible apply oq_id);first|(focus ((with_reducible apply oq_indexAddrN);(iterate 4 exact rfl);omega))|((with_reducible apply oq_gtrF);exact rfl;exact rfl;omega)|((with_reducible apply oq_lssT);exact rfl;exact rfl;omega)|(apply oq_fn;exact rfl;first|exact trivial|(and_intros<;>omega)|omega|skip)|((with_reducible apply oq_load);exact rfl;exact rfl))|((with_reducible apply tl_id);first|(with_reducible apply tl_nil)|((with_reducible apply u_q);(iterate 4 exact rfl)))|((with_reducible apply rd_id);first|(apply Rd.old;(first|(with_reducible assumption)|exact c0|exact c1|exact c2|exact c3|exact c4|exact c5|exact c6|exact c7|exact c8|exact d0|exact d1|exact d2|exact d3|exact d4|exact d5);first|exact List.not_mem_nil|exact m0|exact m1|exact m2|exact m3|exact m4|exact m5|exact m6|exact m7|exact m8|exact m9))|((with_reducible apply t_id);first|(with_reducible apply t_seq)|(apply t_region;kernel_rfl)|((with_reducible apply t_condT);exact rfl)|((with_reducible apply t_condF);exact rfl)|(with_reducible apply t_skip)|(with_reducible apply t_block))|with_reducible apply q_thenN|with_reducible apply q_blockN)
     all_goals (refine ⟨j+1,⟨by omega,take_okW hok hx (by omega)⟩,(by omega),?_,?_⟩<;>(try simp only [List.cons_append,List.nil_append])<;>(repeat' (first|exact FrSub.nil|(apply FrSub.cons;exact rfl)|exact HpSub.refl _)))
 · obtain rfl:j=n:=by omega
   rw [List.take_of_length_le (by omega)] at hok
   rw [decide_eq_true (show Small m nL L from ⟨by omega,by omega,by omega,hok⟩)]
   repeat' (first|((with_reducible apply oq_id);first|((with_reducible apply oq_lssF);exact rfl;exact rfl;omega)|(apply oq_fn;exact rfl;first|exact trivial|(and_intros<;>omega)|omega|skip))|((with_reducible apply tl_id);first|(with_reducible apply tl_nil)|((with_reducible apply u_q);(iterate 4 exact rfl)))|((with_reducible apply t_id);first|(with_reducible apply t_seq)|(apply t_region;kernel_rfl)|((with_reducible apply t_condF);exact rfl)|(with_reducible apply t_ret)|(with_reducible apply t_exit))|with_reducible apply q_thenN|with_reducible apply q_thenE|((with_reducible apply q_blockE);exact rfl)|(with_reducible apply end_ret)|exact rvs_nil|(with_reducible apply rvs_cons)|((with_reducible apply rv_tmp);exact rfl))
   all_goals rfl
end Go.Proofs.Ytcjkndjjbjoehaa
namespace Go.Proofs.Ytcjkndjjbjoehaa
theorem sq_lt {j k:Int} (h0:0≤j) (h:j<k):j*j<k*k:=by
 have:=sq_mono h0 (show j≤k-1 by omega)
 have e:(k-1)*(k-1)=k*k-2*k+1:=by simp only [Int.sub_mul,Int.mul_sub,Int.mul_one,Int.one_mul];omega
 omega
theorem sh_pair {n m q s t:Int} (hq:1≤q) (hs:IsSh n q s) (ht:IsSh (-m) q t) (h:n≤m):s+t≤0:=by
 rcases Int.lt_or_le 0 (s+t) with g|g
 · exfalso
   have h1:=hs.1
   have h2:=ht.1
   unfold ShP at h1 h2
   rw [← sq_neg m] at h2
   rcases Int.lt_or_le 0 s with g1|g1
   · have a:0≤n∧s*s*q≤n*n:=by
       rcases h1 with ⟨x,y|y⟩|⟨x,y,_⟩
       · omega
       · exact ⟨x,y⟩
       · omega
     have sp:=Int.mul_pos g1 g1
     have sq:=Int.mul_pos sp (show 0<q by omega)
     have n0:0<n:=by
       rcases Int.lt_or_eq_of_le a.1 with x|x
       · exact x
       · rw [← x] at a;omega
     have b:t<0∧m*m≤t*t*q:=by
       rcases h2 with ⟨x,_⟩|⟨x,y,z⟩
       · omega
       · exact ⟨y,z⟩
     have c:=sq_lt (j:=-t) (k:=s) (by omega) (by omega)
     rw [← sq_neg t] at c
     have d:=Int.mul_lt_mul_of_pos_right c (show 0<q by omega)
     have e:=sq_mono a.1 h
     omega
   · have b:0≤-m∧t*t*q≤m*m:=by
       rcases h2 with ⟨x,y|y⟩|⟨x,y,_⟩
       · omega
       · exact ⟨x,y⟩
       · omega
     have sp:=Int.mul_pos (show 0<t by omega) (show 0<t by omega)
     have sq:=Int.mul_pos sp (show 0<q by omega)
     have m0:m<0:=by
       rcases Int.lt_or_eq_of_le b.1 with x|x
       · omega
       · have:m=0:=by omega
         rw [this] at b;omega
     have a:s<0∧n*n≤s*s*q:=by
       rcases h1 with ⟨x,_⟩|⟨x,y,z⟩
       · omega
       · exact ⟨y,z⟩
     have c:=sq_lt (j:=-s) (k:=t) (by omega) (by omega)
     rw [← sq_neg s] at c
     have d:=Int.mul_lt_mul_of_pos_right c (show 0<q by omega)
     have e:=sq_mono (show 0≤-m by omega) (show -m≤-n by omega)
     rw [← sq_neg m,← sq_neg n] at e
     omega
 · exact g
def WayIn (x y:Int):Prop:=(-7000≤x∧x≤7000)∧(-7000≤y∧y≤7000)∧¬ (x=0∧y=0)
theorem WayIn.neg {x y:Int} (h:WayIn x y):WayIn (-x) (-y):=by unfold WayIn at *;omega
theorem WayIn.turn {x y:Int} (h:WayIn x y):WayIn (-y) x:=by unfold WayIn at *;omega
theorem WayIn.q {p q:Int} (h:WayIn p q):1≤p*p+q*q:=by
 have c:=sq_nn p
 have d:=sq_nn q
 rcases Int.lt_or_le (p*p+q*q) 1 with g|g
 · have e1:p*p=0:=by omega
   have e2:q*q=0:=by omega
   exact absurd ⟨(Int.mul_eq_zero.1 e1).elim id id,(Int.mul_eq_zero.1 e2).elim id id⟩ h.2.2
 · exact g
theorem along_way {a b c d x y:Int} (h:WOk a b c d) (hw:WayIn x y):∃ lo hi,alongV a b c d x y=(lo,hi,0)∧lo≤hi∧-4000≤lo∧hi≤4000:=by
 have hq:=hw.q
 have hy:wayOk x y=true:=by
   unfold wayOk
   rw [Bool.and_eq_true,allFrom_two]
   unfold WayIn at hw
   refine ⟨by omega,?_⟩
   simp
   omega
 have f1:farV a b≤2000∧0≤farV a b:=by obtain ⟨h1,h2,h3,h4,h5,h6⟩:=h;unfold farV;omega
 have f2:farV c d≤2000∧0≤farV c d:=by obtain ⟨h1,h2,h3,h4,h5,h6⟩:=h;unfold farV;omega
 have g1:=Int.mul_le_mul f1.1 f1.1 f1.2 (by omega)
 have g2:=Int.mul_le_mul f2.1 f2.1 f2.2 (by omega)
 have h8:∀ n,(n=alongLo a b c d x y∨n=alongHi a b c d x y)→n*n≤8000000*(x*x+y*y):=fun n hn=>
   Int.le_trans (ends_sq h.ab h.cd hn) (Int.mul_le_mul_of_nonneg_right (by omega) (by omega))
 have k1:=h8 _ (.inl rfl)
 have k2:=h8 _ (.inr rfl)
 rw [sq_neg (alongHi a b c d x y)] at k2
 have s1:=shV_ex hq k1
 have s2:=shV_ex hq k2
 have hle:alongLo a b c d x y≤alongHi a b c d x y:=by unfold alongLo alongHi;omega
 have sp:=sh_pair hq s1.1 s2.1 hle
 unfold alongV
 rw [if_pos h.windE,if_pos hy]
 exact ⟨_,_,rfl,by omega,by omega,by omega⟩
def nearR (cl ch:Int):Int:=max (max 0 cl) (-ch)
def farR (cl ch:Int):Int:=max (-cl) ch
noncomputable def rtHi (b:Int):Int:=if rt b*rt b=b then rt b else rt b+1
theorem rt_le {a b:Int} (h0:0≤a) (h:a≤b):rt a≤rt b:=by
 obtain ⟨r1,r2,r3⟩:=rt_spec a h0
 obtain ⟨s1,s2,s3⟩:=rt_spec b (by omega)
 rcases Int.lt_or_le (rt b) (rt a) with g|g
 · have:=sq_mono (show 0≤rt b+1 by omega) (show rt b+1≤rt a by omega)
   omega
 · exact g
theorem rtHi_ge (b:Int):rt b≤rtHi b:=by unfold rtHi;split<;>omega
theorem rt_bound {a:Int} (h0:0≤a) (h:a≤1000000):0≤rt a∧rt a≤1000∧rtHi a≤1001:=by
 obtain ⟨r1,r2,r3⟩:=rt_spec a h0
 have:=sq_bound (s:=rt a) (m:=1000) r1 (by omega) (by omega)
 unfold rtHi
 split<;>omega
theorem rootV_eq {a b:Int} (h0:0≤a) (hab:a≤b) (h:b≤1000000):rootV a b=(rt a,rtHi b,0):=by
 unfold rootV
 have f1:fineS (a,b)=true:=(fineS_iff _).2 ⟨hab,by show _≤a;omega,by show b≤_;omega⟩
 rw [if_pos f1,if_neg (by omega)];rfl
noncomputable def rate (v al ah cl ch:Int):Option (Int×Int):=
 if v<farR cl ch then none else if al+rt (v*v-farR cl ch*farR cl ch)<1 then none else some (al+rt (v*v-farR cl ch*farR cl ch),ah+rtHi (v*v-nearR cl ch*nearR cl ch))
noncomputable def spd (v al ah cl ch:Int):Int×Int:=
 if v<farR cl ch then (0,0) else (max (al+rt (v*v-farR cl ch*farR cl ch)) 0,ah+rtHi (v*v-nearR cl ch*nearR cl ch))
structure Fast (v al ah cl ch:Int):Prop where
 v1:1≤v
 v2:v≤1000
 a1:al≤ah
 a2 : -4000≤al
 a3:ah≤4000
 c1:cl≤ch
 c2 : -4000≤cl
 c3:ch≤4000
theorem Fast.sqs {v al ah cl ch:Int} (h:Fast v al ah cl ch) (hv:¬ v<farR cl ch):0≤v*v-farR cl ch*farR cl ch∧v*v-farR cl ch*farR cl ch≤v*v-nearR cl ch*nearR cl ch∧v*v-nearR cl ch*nearR cl ch≤1000000∧v*v≤1000000∧0≤farR cl ch*farR cl ch∧0≤nearR cl ch*nearR cl ch:=by
 have hc:=h.c1
 have v1:=h.v1
 have v2:=h.v2
 have n0:0≤nearR cl ch∧nearR cl ch≤farR cl ch:=by unfold nearR farR;omega
 have e1:=sq_mono n0.1 n0.2
 have e2:=sq_mono (show 0≤farR cl ch by omega) (show farR cl ch≤v by omega)
 have e3:=sq_mono (show 0≤v by omega) v2
 have e4:=sq_nn (farR cl ch)
 have e5:=sq_nn (nearR cl ch)
 omega
theorem rate_spd {v al ah cl ch:Int} (h:Fast v al ah cl ch):(rate v al ah cl ch=none∧(spd v al ah cl ch).1=0)∨∃ s f,rate v al ah cl ch=some (s,f)∧spd v al ah cl ch=(s,f)∧1≤s∧s≤f∧f≤5001:=by
 unfold rate spd
 by_cases hv:v<farR cl ch
 · rw [if_pos hv,if_pos hv];exact .inl ⟨rfl,rfl⟩
 · rw [if_neg hv,if_neg hv]
   obtain ⟨q1,q2,q3,_,_,_⟩:=h.sqs hv
   have a1:=h.a1
   have a3:=h.a3
   have b1:=rt_le q1 q2
   have b2:=rtHi_ge (v*v-nearR cl ch*nearR cl ch)
   have b3:=rt_bound (a:=v*v-nearR cl ch*nearR cl ch) (by omega) q3
   split
   · exact .inl ⟨rfl,by simp only;omega⟩
   · refine .inr ⟨_,_,rfl,?_,by omega,by omega,by omega⟩
     rw [Int.max_eq_left (by omega)]
noncomputable def wrate (v up x y:Int) (z:Wn):Option (Int×Int):=
 let W:=windV z.l up up
 let A:=alongV W.1.1 W.1.2 W.2.1.1 W.2.1.2 x y
 let C:=alongV W.1.1 W.1.2 W.2.1.1 W.2.1.2 (-y) x
 rate v A.1 A.2.1 C.1 C.2.1
noncomputable def wspd (v up x y:Int) (z:Wn):Int×Int:=
 let W:=windV z.l up up
 let A:=alongV W.1.1 W.1.2 W.2.1.1 W.2.1.2 x y
 let C:=alongV W.1.1 W.1.2 W.2.1.1 W.2.1.2 (-y) x
 spd v A.1 A.2.1 C.1 C.2.1
theorem wn_all {v up x y:Int} {z:Wn} (hz:windB z.l=true) (hv:1≤v∧v≤1000) (hu : -500≤up∧up≤20000) (hw:WayIn x y):∃ a b c d al ah cl ch,windV z.l up up=((a,b),(c,d),0)∧alongV a b c d x y=(al,ah,0)∧alongV a b c d (-y) x=(cl,ch,0)∧Fast v al ah cl ch∧wrate v up x y z=rate v al ah cl ch∧wspd v up x y z=spd v al ah cl ch:=by
 have hf:fineS (up,up)=true:=(fineS_iff _).2 ⟨Int.le_refl _,by show _≤up;omega,by show up≤_;omega⟩
 obtain ⟨a,b,c,d,e,h1,h2,h3,h4,h5,h6⟩:=windV_ok hz hf
 have ok:WOk a b c d:=⟨h1,h2,h3,h4,h5,h6⟩
 obtain ⟨al,ah,e1,l1,l2,l3⟩:=along_way ok hw
 obtain ⟨cl,ch,e2,m1,m2,m3⟩:=along_way ok hw.turn
 refine ⟨a,b,c,d,al,ah,cl,ch,e,e1,e2,⟨hv.1,hv.2,l1,l2,l3,m1,m2,m3⟩,?_,?_⟩
 · unfold wrate;rw [e];simp only;rw [e1,e2]
 · unfold wspd;rw [e];simp only;rw [e1,e2]
theorem wn_both {v up x y:Int} {z:Wn} (hz:windB z.l=true) (hv:1≤v∧v≤1000) (hu : -500≤up∧up≤20000) (hw:WayIn x y):(wrate v up x y z=none∧(wspd v up x y z).1=0)∨∃ s f,wrate v up x y z=some (s,f)∧wspd v up x y z=(s,f)∧1≤s∧s≤f∧f≤5001:=by
 obtain ⟨a,b,c,d,al,ah,cl,ch,_,_,_,hF,e1,e2⟩:=wn_all hz hv hu hw
 rw [e1,e2]
 exact rate_spd hF
noncomputable def ratesV (v up x y:Int) (L:List Wn):List (Int×Int):=if L.all fun z=>(wrate v up x y z).isSome then L.filterMap (wrate v up x y) else []
end Go.Proofs.Ytcjkndjjbjoehaa
namespace Go.Proofs.Ytcjkndjjbjoehaa
open Go.RowKit
attribute [local irreducible] OQ OS OX Rd T TL GX GL AL AI RV wpG SAny Calls
theorem windAt_calls (A:Option Addr) (n c:Nat) (l:List Gl) (p q:Int) (w:World) (hr:RdS w 6 A n (l.map glCells)) (hn:n≤1000000) (hcap:n≤c) :
   Calls Try.prog 27 #[.slice A n c,.agg #[.int .i64 p,.int .i64 q]] w fun e w'=>e=.returned (windO (windV l p q))∧Ext w w':=by
 have hl:=hr.len
 simp only [List.length_map] at hl
 have HC:=fun w1 (hx:Ext w w1)=>checkWinds_calls A n c l w1 (hr.ext hx) hn
 have HF:=fun w1=>check_calls p q w1
 unfold windV
 cases hwb:windB l with
 | false=>
   rw [hwb] at HC
   simp only [Bool.false_eq_true,if_false] at HC ⊢
   refine enterQ (c:=cx w 66) Try.func27 rfl rfl rfl rfl ?_
   repeat' (first|((with_reducible apply oq_id);first|(apply oq_fn;exact rfl;first|exact trivial|(and_intros<;>omega)|omega|skip)|((with_reducible apply oq_load);exact rfl;exact rfl)|((with_reducible apply oq_call (hc:=Try.call62));exact rfl;exact rfl;exact fun D w1 hw1=>HC w1 hw1.ext.ext)|((with_reducible apply oq_build);(iterate 3 exact rfl)))|((with_reducible apply tl_id);first|(with_reducible apply tl_nil)|((with_reducible apply u_q);(iterate 4 exact rfl))|((with_reducible apply u_s0);exact rfl;exact rfl)|((with_reducible apply u_s);(iterate 3 exact rfl)))|((with_reducible apply os_id);first|((with_reducible apply os_x);exact rfl)|((with_reducible apply os_storeAgg);(iterate 5 exact rfl)))|((with_reducible apply ox_id);first|((with_reducible apply ox_alloc);exact rfl;intro _)|((with_reducible apply ox_box);exact rfl;exact rfl;intro _)|((with_reducible apply ox_boxAgg);exact rfl;intro _))|((with_reducible apply rd_id);first|(apply Rd.own;(repeat first|exact P0|apply P1);exact rfl;done))|((with_reducible apply t_id);first|(with_reducible apply t_seq)|(apply t_region;kernel_rfl)|((with_reducible apply t_condT);exact rfl)|(with_reducible apply t_ret))|with_reducible apply q_thenN|with_reducible apply q_thenR|exact P0|exact Rdn.zero|apply Rdn.succ|((with_reducible apply Norm.nil);exact rfl)|((with_reducible apply Norm.cons);exact rfl)|(with_reducible apply end_ret)|exact rvs_nil|(with_reducible apply rvs_cons)|((with_reducible apply rv_tmp);exact rfl)|((with_reducible apply rv_cellAgg);exact rfl;exact rfl)|exact Nat.le_of_ble_eq_true rfl)
   all_goals rfl
 | true=>
 rw [hwb] at HC
 have hW:=(windB_iff l).1 hwb
 cases hfn:fineS (p,q) with
 | false=>
   rw [hfn] at HF
   simp only [Bool.false_eq_true,if_false,if_true] at HF HC ⊢
   refine enterQ (c:=cx w 66) Try.func27 rfl rfl rfl rfl ?_
   repeat' (first|((with_reducible apply oq_id);first|(apply oq_fn;exact rfl;first|exact trivial|(and_intros<;>omega)|omega|skip)|((with_reducible apply oq_load);exact rfl;exact rfl)|((with_reducible apply oq_loadAgg);exact rfl;exact rfl)|((with_reducible apply oq_call (hc:=Try.call62));exact rfl;exact rfl;exact fun D w1 hw1=>HC w1 hw1.ext.ext)|((with_reducible apply oq_call (hc:=Try.call65));exact rfl;exact rfl;exact fun D w1 hw1=>HF w1)|((with_reducible apply oq_build);(iterate 3 exact rfl)))|((with_reducible apply tl_id);first|(with_reducible apply tl_nil)|((with_reducible apply u_q);(iterate 4 exact rfl))|((with_reducible apply u_s0);exact rfl;exact rfl)|((with_reducible apply u_s);(iterate 3 exact rfl)))|((with_reducible apply os_id);first|((with_reducible apply os_x);exact rfl)|((with_reducible apply os_storeAgg);(iterate 5 exact rfl)))|((with_reducible apply ox_id);first|((with_reducible apply ox_alloc);exact rfl;intro _)|((with_reducible apply ox_box);exact rfl;exact rfl;intro _)|((with_reducible apply ox_boxAgg);exact rfl;intro _))|((with_reducible apply rd_id);first|(apply Rd.own;(repeat first|exact P0|apply P1);exact rfl;done))|((with_reducible apply t_id);first|(with_reducible apply t_seq)|(apply t_region;kernel_rfl)|((with_reducible apply t_condT);exact rfl)|((with_reducible apply t_condF);exact rfl)|(with_reducible apply t_ret)|(with_reducible apply t_skip))|with_reducible apply q_thenN|with_reducible apply q_thenR|exact P0|exact Rdn.zero|apply Rdn.succ|((with_reducible apply Norm.nil);exact rfl)|((with_reducible apply Norm.cons);exact rfl)|(with_reducible apply end_ret)|exact rvs_nil|(with_reducible apply rvs_cons)|((with_reducible apply rv_tmp);exact rfl)|((with_reducible apply rv_cellAgg);exact rfl;exact rfl)|exact Nat.le_of_ble_eq_true rfl)
   all_goals rfl
 | true=>
 rw [hfn] at HF
 simp only [if_true] at HF HC ⊢
 have hpq:p≤q:=((fineS_iff (p,q)).1 hfn).1
 have n1:=hW.n1
 have n16:=hW.n16
 obtain ⟨a1,a2,a3,a4⟩:=steady_big (e:=true) (p:=p) (q:=q) hW
 obtain ⟨b1,b2,b3,b4⟩:=steady_big (e:=false) (p:=p) (q:=q) hW
 have G:=gustR_bounds (p:=p) (q:=q) (fun x hx=>by have:=hW.ok x hx;omega) l.length
 obtain ⟨r1,k1,h1,h2⟩:=wnd_split hW (fun h=>decide (p≤h)) (fun a b hab h=>by simp at h ⊢;omega)
 obtain ⟨r2,k2,h3,h4⟩:=wnd_split hW (fun h=>decide (q<h)) (fun a b hab h=>by simp at h ⊢;omega)
 simp only [decide_eq_false_iff_not,decide_eq_true_eq,Int.not_le,Int.not_lt] at h1 h2 h3 h4
 have hr12:r1≤r2:=by
   rcases Nat.lt_or_ge r2 r1 with k|k
   · have hx:l[r2]?=some l[r2]:=List.getElem?_eq_getElem (by omega)
     have:=h1 _ _ k hx
     have:=h4 _ _ (Nat.le_refl _) hx
     omega
   · exact k
 have hcn:=fun i hi=>cntG_iff (i:=i) hW h1 h2 h3 h4 k1 hi
 rw [hl] at k1 k2
 obtain ⟨a,ha⟩:∃ a,a=r1-1:=⟨_,rfl⟩
 obtain ⟨m,hm⟩:∃ m,m=min (r2+1) n:=⟨_,rfl⟩
 have hz:gustR l p q (a+0)=0:=gustR_from (a:=a) _ (Nat.le_refl _) fun i hi=>by rw [hcn i (by omega)];simp;omega
 have he:gustR l p q (a+(m-a))=gustV l p q:=by
   rw [show a+(m-a)=m by omega]
   exact (gustR_to l.length (by omega) fun i hi hi2=>by rw [hcn i (by omega)];simp;omega).symm
 obtain ⟨b,o,x0,rfl,_,_,_⟩:=gl_read hr (show 0<n by omega)
 refine enterQ (c:=cx w 66) Try.func27 rfl rfl rfl rfl ?_
 repeat' (first|((with_reducible apply oq_id);first|((with_reducible apply oq_sliceLH (l:=a) (h:=m));(iterate 5 exact rfl);omega;omega;omega;omega;omega)|(apply oq_fn;exact rfl;first|exact trivial|(and_intros<;>omega)|omega|skip)|((with_reducible apply oq_load);exact rfl;exact rfl)|((with_reducible apply oq_loadAgg);exact rfl;exact rfl)|((with_reducible apply oq_call (hc:=Try.call62));exact rfl;exact rfl;exact fun D w1 hw1=>HC w1 hw1.ext.ext)|((with_reducible apply oq_call (hc:=Try.call65));exact rfl;exact rfl;exact fun D w1 hw1=>HF w1)|((with_reducible apply oq_call (hc:=Try.call66));exact rfl;exact rfl;exact fun D w1 hw1=>srchGe hr hn p q r1 k1 h1 h2 w1 hw1 (by (repeat first|exact P0|apply P1)) (by (repeat first|exact P0|apply P1)))|((with_reducible apply oq_call (hc:=Try.call66));exact rfl;exact rfl;exact fun D w1 hw1=>srchGt hr hn p q r2 k2 h3 h4 w1 hw1 (by (repeat first|exact P0|apply P1)) (by (repeat first|exact P0|apply P1))))|((with_reducible apply tl_id);first|(with_reducible apply tl_nil)|((with_reducible apply u_q);(iterate 4 exact rfl))|((with_reducible apply u_s0);exact rfl;exact rfl)|((with_reducible apply u_s);(iterate 3 exact rfl)))|((with_reducible apply os_id);first|((with_reducible apply os_x);exact rfl)|((with_reducible apply os_store);(iterate 4 exact rfl)))|((with_reducible apply ox_id);first|((with_reducible apply ox_alloc);exact rfl;intro _)|((with_reducible apply ox_box);exact rfl;exact rfl;intro _)|((with_reducible apply ox_boxAgg);exact rfl;intro _))|((with_reducible apply rd_id);first|(apply Rd.own;(repeat first|exact P0|apply P1);exact rfl;done))|((with_reducible apply t_id);first|(with_reducible apply t_seq)|(apply t_region;kernel_rfl)|((with_reducible apply t_condF);exact rfl)|(with_reducible apply t_skip)|(with_reducible apply t_block))|with_reducible apply q_thenN|exact P0|exact Rdn.zero|apply Rdn.succ|((with_reducible apply Norm.nil);exact rfl)|((with_reducible apply Norm.cons);exact rfl)|exact Nat.le_of_ble_eq_true rfl)
 rename_i b10
 apply t_loopK (ι:=Nat) [2,3,4,5,10,13,43,44,54,55,56,57,58,59,60,61,62,63,64,65] (fun j=>[(45,.int .i64 (j:Nat))]) (fun j=>[(b10,[.int .i64 (gustR l p q (a+j))],some (3,1,1))]) (fun j=>j≤m-a) (fun j=>m-a-j) (0)
 (repeat (first|exact KeepF.nil|(apply KeepF.cons;exact rfl)|apply KeepF.skip))
 (repeat first|exact FrSub.nil|(apply FrSub.cons;exact rfl))
 (repeat (first|exact HpSub.refl _|(apply HpSub.consE;(repeat first|exact P0|apply P1);(first|exact rfl|exact congrArg (fun z=>[Value.int .i64 z]) hz.symm))|exact HpSub.nil))
 · omega
 intro j hj
 try simp only [List.cons_append,List.nil_append]
 by_cases hlt:j<m-a
 · obtain ⟨b',o',x,hA,_,hx,c0,c1,c2,c3,c4,c5⟩:=gl_read hr (show a+j<n by omega)
   obtain ⟨rfl,rfl⟩:b=b'∧o=o':=by simpa using hA
   rw [show o+(a+j)*6=o+a*6+j*6 by omega] at c0 c1 c2 c3 c4 c5
   have hcnt:cntG l p q (a+j)=true:=by rw [hcn (a+j) (by omega)];simp;omega
   repeat' (first|((with_reducible apply oq_id);first|(focus ((with_reducible apply oq_indexAddrN);(iterate 4 exact rfl);omega))|(apply oq_fn;exact rfl;first|exact trivial|(and_intros<;>omega)|omega|skip)|((with_reducible apply oq_load);exact rfl;exact rfl)|((with_reducible apply oq_loadAgg);exact rfl;exact rfl))|((with_reducible apply tl_id);first|(with_reducible apply tl_nil)|((with_reducible apply u_q);(iterate 4 exact rfl))|((with_reducible apply u_s0);exact rfl;exact rfl)|((with_reducible apply u_s);(iterate 3 exact rfl)))|((with_reducible apply os_id);first|((with_reducible apply os_x);exact rfl)|((with_reducible apply os_store);(iterate 4 exact rfl))|((with_reducible apply os_storeAgg);(iterate 5 exact rfl)))|((with_reducible apply ox_id);first|((with_reducible apply ox_alloc);exact rfl;intro _))|((with_reducible apply rd_id);first|(apply Rd.own;(repeat first|exact P0|apply P1);exact rfl;done)|(apply Rd.old;(first|(with_reducible assumption)|exact c0|exact c1|exact c2|exact c3|exact c4|exact c5);first|exact List.not_mem_nil))|((with_reducible apply t_id);first|(with_reducible apply t_seq)|(apply t_region;kernel_rfl)|((with_reducible apply t_condD);exact rfl;all_goals first|(intro hp;try (exfalso;omega))|skip)|(with_reducible apply t_skip)|(with_reducible apply t_block))|with_reducible apply q_thenN|with_reducible apply q_blockN|exact P0|(with_reducible apply P1)|exact Rdn.zero|apply Rdn.succ|((with_reducible apply Norm.nil);exact rfl)|((with_reducible apply Norm.cons);exact rfl)|exact Nat.le_of_ble_eq_true rfl)
   all_goals (refine ⟨j+1,by omega,by omega,?_,?_⟩<;>(try simp only [List.cons_append,List.nil_append])<;>(repeat' (first|exact FrSub.nil|(apply FrSub.cons;exact rfl)|(apply HpSub.consE;(repeat first|exact P0|apply P1);first|exact rfl|(exact congrArg (fun z=>[Value.int .i64 z]) (gustR_yes hx hcnt).symm))|exact HpSub.nil)))
 · obtain rfl:j=m-a:=by omega
   rw [he]
   change 0≤gustV l p q∧gustV l p q≤500 at G
   clear hz he hcn
   repeat' (first|((with_reducible apply oq_id);first|(apply oq_fn;exact rfl;first|exact trivial|(and_intros<;>omega)|omega|skip)|((with_reducible apply oq_load);exact rfl;exact rfl)|((with_reducible apply oq_loadAgg);exact rfl;exact rfl)|((with_reducible apply oq_call (hc:=Try.call70));exact rfl;exact rfl;exact fun D w1 hw1=>layers_calls 71 true _ n c l p q w1 (hr.ext hw1.ext.ext) hW hpq Try.call71 (fun x w2=>eastG_calls _ _ _ _ w2))|((with_reducible apply oq_call (hc:=Try.call70));exact rfl;exact rfl;exact fun D w1 hw1=>layers_calls 72 false _ n c l p q w1 (hr.ext hw1.ext.ext) hW hpq Try.call72 (fun x w2=>northG_calls _ _ _ _ w2))|((with_reducible apply oq_call (hc:=Try.call69));exact rfl;exact rfl;exact fun D w1 hw1=>wide1 ⟨by omega,by omega⟩ ⟨by omega,by omega⟩ G hw1 (by (repeat first|exact P0|apply P1)))|((with_reducible apply oq_build);(iterate 3 exact rfl)))|((with_reducible apply tl_id);first|(with_reducible apply tl_nil)|((with_reducible apply u_q);(iterate 4 exact rfl)))|((with_reducible apply gx_id);first|(with_reducible apply v_nil)|((with_reducible apply v_q);(iterate 3 exact rfl)))|((with_reducible apply os_id);first|((with_reducible apply os_storeAgg);(iterate 5 exact rfl)))|((with_reducible apply ai_id);first|((with_reducible apply ai_q);(iterate 5 exact rfl))|((with_reducible apply ai_s0);(iterate 4 exact rfl)))|((with_reducible apply rd_id);first|(apply Rd.own;(repeat first|exact P0|apply P1);exact rfl;done))|((with_reducible apply t_id);first|(with_reducible apply t_seq)|(apply t_region;kernel_rfl)|((with_reducible apply t_condD);exact rfl;all_goals first|(intro hp;try (exfalso;omega))|skip)|(with_reducible apply t_ret)|(with_reducible apply t_exit))|with_reducible apply q_thenN|with_reducible apply q_thenE|((with_reducible apply q_blockE);exact rfl)|exact P0|(with_reducible apply P1)|exact Rdn.zero|apply Rdn.succ|((with_reducible apply Norm.nil);exact rfl)|((with_reducible apply Norm.cons);exact rfl)|(with_reducible apply end_ret)|exact rvs_nil|(with_reducible apply rvs_cons)|((with_reducible apply rv_tmp);exact rfl)|((with_reducible apply rv_cellAgg);exact rfl;exact rfl)|(apply t_mix (id:=16) [0,1,2,3,4,5,6,7,8,9,10] 2 #[false,false,false,false,false,false,false,false,false,false,false,true,false];kernel_rfl;kernel_rfl;exact rfl)|((with_reducible apply al_id);first|(apply al_done;decide +kernel)|(apply al_one 11;decide +kernel)|(apply al_one 12;decide +kernel))|exact Nat.le_of_ble_eq_true rfl)
   all_goals rfl
def rtCells (z:Int×Int):List Value:=[.int .i64 z.1,.int .i64 z.2]
def sR (l:List (Int×Int)):Option (Nat×Nat)→Value
 | none=>.slice none 0 0
 | some (b,cap)=>.slice (some ⟨b,0,none⟩) l.length cap
def hR (l:List (Int×Int)):Option (Nat×Nat)→Hp
 | none=>[]
 | some (b,cap)=>[(b,(l.map rtCells).flatten,some (202,2,cap))]
theorem rt_len (l:List (Int×Int)):((l.map rtCells).flatten).length=l.length*2:=by
 induction l with
 | nil=>rfl
 | cons a l ih=>simp only [List.map_cons,List.flatten_cons,List.length_append,ih,List.length_cons,rtCells,List.length_nil];omega
def LsR (l:List (Int×Int)) (v:Value) (H:Hp):Prop:=∃ o,(o=none→l=[])∧v=sR l o∧H=hR l o
theorem sR_snoc (l:List (Int×Int)) (z:Int×Int) (b cap:Nat):sR (l++[z]) (some (b,cap))=.slice (some ⟨b,0,none⟩) (l.length+1) cap:=by simp [sR]
theorem hR_snoc (l:List (Int×Int)) (s f:Int) (b cap:Nat):hR (l++[(s,f)]) (some (b,cap))=[(b,(l.map rtCells).flatten++[.int .i64 s,.int .i64 f],some (202,2,cap))]:=by simp [hR,rtCells]
def Pre {α β:Type} (f:α→Option β) (L:List α) (acc:List β):Prop:=(L.take acc.length).map f=acc.map some∧acc.length≤L.length
theorem pre_nil {α β:Type} (f:α→Option β) (L:List α):Pre f L []:=⟨rfl,Nat.zero_le _⟩
theorem pre_snoc {α β:Type} {f:α→Option β} {L:List α} {acc:List β} {x:α} {z:β} (h:Pre f L acc) (hx:L[acc.length]?=some x) (hz:f x=some z):Pre f L (acc++[z]):=by
 refine ⟨?_,?_⟩
 · rw [List.length_append,List.length_singleton,List.take_add_one,hx,List.map_append,List.map_append,h.1]
   simp [hz]
 · have:=(List.getElem?_eq_some_iff.1 hx).1
   rw [List.length_append,List.length_singleton];omega
theorem map_some {α β:Type} {f:α→Option β}:∀ {L:List α} {acc:List β},L.map f=acc.map some→(L.all fun z=>(f z).isSome)=true∧L.filterMap f=acc
 | [],[],_=>⟨rfl,rfl⟩
 | [],_::_,h=>by cases h
 | _::_,[],h=>by cases h
 | x::L,z::acc,h=>by
   simp only [List.map_cons,List.cons.injEq] at h
   obtain ⟨i1,i2⟩:=map_some h.2
   refine ⟨?_,?_⟩
   · rw [List.all_cons,i1,h.1];rfl
   · rw [List.filterMap_cons,h.1,i2]
theorem ratesV_pre {v up x y:Int} {L acc:List _} (h:Pre (wrate v up x y) L acc) (hl:acc.length=L.length):ratesV v up x y L=acc:=by
 have h1:=h.1
 rw [List.take_of_length_le (by omega)] at h1
 obtain ⟨i1,i2⟩:=map_some h1
 unfold ratesV
 rw [if_pos i1,i2]
theorem ratesV_no {v up x y:Int} {L:List Wn} {z:Wn} (h:z∈L) (hz:wrate v up x y z=none):ratesV v up x y L=[]:=by
 unfold ratesV
 rw [if_neg]
 intro e
 have:=List.all_eq_true.1 e z h
 rw [hz] at this;cases this
theorem oq_max3E {c:Cx} {F:Fr} {H:Hp} {d:Option Tmp} {ty:TypeId} {pos:String} {af:Array Edge} {g:Option (Nat×Bool)} {x y z:Operand} {m n k r:Int} {T:Array TypeId} (hx:ev F x=some (.int .i64 m)) (hy:ev F y=some (.int .i64 n)) (hz:ev F z=some (.int .i64 k)) (e:max (max m n) k=r):OQ c ⟨d,.call ⟨.builtin .max,#[x,y,z],T⟩,ty,pos,af,g⟩ F H (.int .i64 r):=
 (oq_max3 hx hy hz).as (by rw [e])
theorem rates_calls (v q1 q2 q3 q4 g0 g1 up x y:Int) (A:Option Addr) (n cp:Nat) (L:List Wn) (w:World) (hr:CastR w A n L) (hs:∀ z∈L,z.n≤1000000) (hb:∀ z∈L,windB z.l=true) (hn:n≤8) (hv:1≤v∧v≤1000) (hu : -500≤up∧up≤20000) (hw:WayIn x y):Calls Try.prog 115 #[.agg #[.int .i64 v,.int .i64 q1,.int .i64 q2,.int .i64 q3,.int .i64 q4,.int .i64 g0,.int .i64 g1],.slice A n cp,.int .i64 up,.int .i64 x,.int .i64 y] w fun e w'=>∃ u H',e=.returned u∧LsR (ratesV v up x y L) u H'∧Has w ⟨[],[]⟩ H' w':=by
 have hl:=hr.len
 refine enterF (c:=cx w 113) Try.func115 rfl rfl rfl rfl ?_
 refine t_cut (ι:=Nat) (fun b5=>[(1,.slice A n cp),(2,.int .i64 up),(3,.int .i64 x),(4,.int .i64 y),(5,.pointer (some ⟨b5,0,none⟩))]) (fun b5=>[(b5,[.int .i64 v,.int .i64 q1,.int .i64 q2,.int .i64 q3,.int .i64 q4,.int .i64 g0,.int .i64 g1],some (41,7,1))]) (fun _=>True) ?_ ?_
 · repeat' (first|((with_reducible apply oq_id);first|(apply oq_fn;exact rfl;first|exact trivial|(and_intros<;>omega)|omega|skip))|((with_reducible apply tl_id);first|(with_reducible apply tl_nil)|((with_reducible apply u_q);(iterate 4 exact rfl))|((with_reducible apply u_s);(iterate 3 exact rfl)))|((with_reducible apply os_id);first|((with_reducible apply os_x);exact rfl))|((with_reducible apply ox_id);first|((with_reducible apply ox_boxAgg);exact rfl;intro _))|((with_reducible apply t_id);first|(apply t_region;kernel_rfl)))
   all_goals exact ⟨rfl,_,trivial,by (repeat first|exact FrSub.nil|(apply FrSub.cons;exact rfl)),by (repeat (first|exact HpSub.refl _|(apply HpSub.consE;(repeat first|exact P0|apply P1);exact rfl)|exact HpSub.nil))⟩
 rintro b5 -
 try dsimp only
 repeat' (first|((with_reducible apply oq_id);first|(apply oq_fn;exact rfl;first|exact trivial|(and_intros<;>omega)|omega|skip))|((with_reducible apply tl_id);first|(with_reducible apply tl_nil)|((with_reducible apply u_q);(iterate 4 exact rfl)))|((with_reducible apply t_id);first|(with_reducible apply t_seq)|(apply t_region;kernel_rfl)|(with_reducible apply t_block))|with_reducible apply q_thenN)
 apply t_loopK (ι:=List (Int×Int)×Option (Nat×Nat)) [2,3,4,5,25,26,112] (fun z=>[(27,.int .i64 ((z.1.length:Nat):Int)),(11,sR z.1 z.2)]) (fun z=>(b5,[.int .i64 v,.int .i64 q1,.int .i64 q2,.int .i64 q3,.int .i64 q4,.int .i64 g0,.int .i64 g1],some (41,7,1))::hR z.1 z.2) (fun z=>z.1.length≤n∧Pre (wrate v up x y) L z.1∧(z.2=none→z.1=[])) (fun z=>n-z.1.length) (([],none))
 (repeat (first|exact KeepF.nil|(apply KeepF.cons;exact rfl)|apply KeepF.skip))
 (repeat first|exact FrSub.nil|(apply FrSub.cons;exact rfl))
 (repeat (first|exact HpSub.refl _|(apply HpSub.consE;(repeat first|exact P0|apply P1);exact rfl)|exact HpSub.nil))
 · exact ⟨Nat.zero_le _,pre_nil _ _,fun _=>rfl⟩
 rintro ⟨acc,o⟩ ⟨hj,hpre,ho⟩
 simp only at hj hpre ho
 try simp only [List.cons_append,List.nil_append]
 by_cases hlt:acc.length<n
 · obtain ⟨b,o',z,rfl,_,hz,c0,hrx,hcx⟩:=hr.read hlt
   have hm:=List.mem_of_getElem? hz
   obtain ⟨a,bb,cc,d,al,ah,cl,ch,e1,e2,e3,hF,er,es⟩:=wn_all (hb z hm) hv hu hw
   have HX:=fun w1 (e:Ext w w1)=>windAt_calls z.A z.n z.c z.l up up w1 (hrx.ext e) (hs z hm) hcx
   have HA:=fun w1=>airAlong_calls a bb cc d x y w1
   have HC:=fun w1=>airAlong_calls a bb cc d (-y) x w1
   rw [e1] at HX
   rw [e2] at HA
   rw [e3] at HC
   simp only at HA HC
   have f1:=hF.a1
   have f2:=hF.a2
   have f3:=hF.a3
   have f4:=hF.c1
   have f5:=hF.c2
   have f6:=hF.c3
   obtain ⟨hwx,hwy,hwz⟩:=hw
   have hsq:=hF.sqs
   unfold rate at er
   obtain ⟨fr,hfr0⟩:∃ r,farR cl ch=r:=⟨_,rfl⟩
   obtain ⟨nr,hnr0⟩:∃ r,nearR cl ch=r:=⟨_,rfl⟩
   rw [hfr0,hnr0] at er hsq
   have hfr:max (-cl) ch=fr:=hfr0
   have hnr:max (max 0 cl) (-ch)=nr:=hnr0
   clear hfr0 hnr0
   by_cases hv2:v<fr
   · have hnone:wrate v up x y z=none:=by rw [er,if_pos hv2]
     clear er es hsq
     repeat' (first|((with_reducible apply oq_id);first|(focus ((with_reducible apply oq_indexAddrN);(iterate 4 exact rfl);omega))|((with_reducible apply oq_neg);exact rfl;(refine ⟨?_,?_⟩<;>omega))|((with_reducible apply (oq_max2E (k:=fr)));exact rfl;exact rfl;exact hfr)|((with_reducible apply (oq_max3E (r:=nr)));(iterate 3 exact rfl);exact hnr)|((with_reducible apply oq_gtrT);exact rfl;exact rfl;omega)|((with_reducible apply oq_lssT);exact rfl;exact rfl;omega)|(apply oq_fn;exact rfl;first|exact trivial|(and_intros<;>omega)|omega|skip)|((with_reducible apply oq_load);exact rfl;exact rfl)|((with_reducible apply oq_loadAgg);exact rfl;exact rfl)|((with_reducible apply oq_call (hc:=Try.call27));exact rfl;exact rfl;exact fun D w1 hw1=>HX w1 hw1.ext.ext)|((with_reducible apply oq_call (hc:=Try.call31));exact rfl;exact rfl;exact fun D w1 hw1=>HA w1)|((with_reducible apply oq_call (hc:=Try.call31));exact rfl;exact rfl;exact fun D w1 hw1=>HC w1)|((with_reducible apply oq_build);(iterate 3 exact rfl)))|((with_reducible apply tl_id);first|(with_reducible apply tl_nil)|((with_reducible apply u_q);(iterate 4 exact rfl))|((with_reducible apply u_s0);exact rfl;exact rfl)|((with_reducible apply u_s);(iterate 3 exact rfl)))|((with_reducible apply gx_id);first|(with_reducible apply v_nil)|((with_reducible apply v_q);(iterate 3 exact rfl)))|((with_reducible apply os_id);first|((with_reducible apply os_x);exact rfl)|((with_reducible apply os_storeAgg);(iterate 5 exact rfl)))|((with_reducible apply ox_id);first|((with_reducible apply ox_alloc);exact rfl;intro _))|((with_reducible apply rd_id);first|(apply Rd.own;(repeat first|exact P0|apply P1);exact rfl;done)|(apply Rd.old;(first|(with_reducible assumption)|exact c0|exact c1|exact c2|exact c3|exact c4|exact c5|exact c6|exact c7|exact c8|exact d0|exact d1|exact d2|exact d3|exact d4|exact d5);first|exact List.not_mem_nil|exact m0|exact m1|exact m2|exact m3|exact m4|exact m5|exact m6|exact m7|exact m8|exact m9))|((with_reducible apply t_id);first|(with_reducible apply t_seq)|(apply t_region;kernel_rfl)|(apply t_drawn;kernel_rfl;decide +kernel;try simp only [List.append_eq,List.cons_append,List.nil_append])|((with_reducible apply t_condT);exact rfl)|(with_reducible apply t_ret)|(with_reducible apply t_skip)|(with_reducible apply t_block))|with_reducible apply q_thenN|with_reducible apply q_thenR|with_reducible apply q_blockR|exact P0|exact Rdn.zero|apply Rdn.succ|((with_reducible apply Norm.nil);exact rfl)|((with_reducible apply Norm.cons);exact rfl)|(with_reducible apply end_ret)|exact rvs_nil|(with_reducible apply rvs_cons)|((with_reducible apply rv_tmp);exact rfl)|exact Nat.le_of_ble_eq_true rfl)
     all_goals (rw [ratesV_no (List.mem_of_getElem? hz) hnone];exact ⟨_,⟨none,(fun _=>rfl),rfl,rfl⟩,HpSub.nil⟩)
   · obtain ⟨k1,k2,k3,k4,k5,k6⟩:=hsq hv2
     have HR:=fun w1=>boundRoot_calls (v*v-fr*fr) (v*v-nr*nr) w1
     rw [rootV_eq k1 k2 k3] at HR
     simp only at HR
     have kr:=rt_bound k1 (by omega)
     have kh:=rt_bound (show 0≤v*v-nr*nr by omega) k3
     have kh2:=rtHi_ge (v*v-nr*nr)
     rw [if_neg hv2] at er
     obtain ⟨r0,hr0⟩:∃ r,rt (v*v-fr*fr)=r:=⟨_,rfl⟩
     obtain ⟨r1,hr1⟩:∃ r,rtHi (v*v-nr*nr)=r:=⟨_,rfl⟩
     rw [hr0,hr1] at HR er
     rw [hr0] at kr
     rw [hr1] at kh kh2
     clear hsq hr0 hr1 es
     by_cases hs1:al+r0<1
     · have hnone:wrate v up x y z=none:=by rw [er,if_pos hs1]
       clear er
       repeat' (first|((with_reducible apply oq_id);first|(focus ((with_reducible apply oq_indexAddrN);(iterate 4 exact rfl);omega))|((with_reducible apply oq_neg);exact rfl;(refine ⟨?_,?_⟩<;>omega))|((with_reducible apply (oq_max2E (k:=fr)));exact rfl;exact rfl;exact hfr)|((with_reducible apply (oq_max3E (r:=nr)));(iterate 3 exact rfl);exact hnr)|(focus ((with_reducible apply (oq_mulE (k:=v*v)));(iterate 3 exact rfl);(refine ⟨?_,?_⟩<;>omega)))|(focus ((with_reducible apply (oq_mulE (k:=fr*fr)));(iterate 3 exact rfl);(refine ⟨?_,?_⟩<;>omega)))|(focus ((with_reducible apply (oq_mulE (k:=nr*nr)));(iterate 3 exact rfl);(refine ⟨?_,?_⟩<;>omega)))|(focus ((with_reducible apply (oq_subE (k:=v*v-fr*fr)));exact rfl;exact rfl;omega))|(focus ((with_reducible apply (oq_subE (k:=v*v-nr*nr)));exact rfl;exact rfl;omega))|(focus ((with_reducible apply (oq_addE (k:=al+r0)));exact rfl;exact rfl;omega))|(focus ((with_reducible apply (oq_addE (k:=ah+r1)));exact rfl;exact rfl;omega))|((with_reducible apply oq_gtrF);exact rfl;exact rfl;omega)|((with_reducible apply oq_lssT);exact rfl;exact rfl;omega)|(apply oq_fn;exact rfl;first|exact trivial|(and_intros<;>omega)|omega|skip)|((with_reducible apply oq_load);exact rfl;exact rfl)|((with_reducible apply oq_loadAgg);exact rfl;exact rfl)|((with_reducible apply oq_call (hc:=Try.call27));exact rfl;exact rfl;exact fun D w1 hw1=>HX w1 hw1.ext.ext)|((with_reducible apply oq_call (hc:=Try.call31));exact rfl;exact rfl;exact fun D w1 hw1=>HA w1)|((with_reducible apply oq_call (hc:=Try.call31));exact rfl;exact rfl;exact fun D w1 hw1=>HC w1)|((with_reducible apply oq_call (hc:=Try.call74));exact rfl;exact rfl;exact fun D w1 hw1=>HR w1)|((with_reducible apply oq_build);(iterate 3 exact rfl)))|((with_reducible apply tl_id);first|(with_reducible apply tl_nil)|((with_reducible apply u_q);(iterate 4 exact rfl))|((with_reducible apply u_s0);exact rfl;exact rfl)|((with_reducible apply u_s);(iterate 3 exact rfl)))|((with_reducible apply gx_id);first|(with_reducible apply v_nil)|((with_reducible apply v_q);(iterate 3 exact rfl)))|((with_reducible apply os_id);first|((with_reducible apply os_x);exact rfl)|((with_reducible apply os_storeAgg);(iterate 5 exact rfl)))|((with_reducible apply ox_id);first|((with_reducible apply ox_alloc);exact rfl;intro _))|((with_reducible apply rd_id);first|(apply Rd.own;(repeat first|exact P0|apply P1);exact rfl;done)|(apply Rd.old;(first|(with_reducible assumption)|exact c0|exact c1|exact c2|exact c3|exact c4|exact c5|exact c6|exact c7|exact c8|exact d0|exact d1|exact d2|exact d3|exact d4|exact d5);first|exact List.not_mem_nil|exact m0|exact m1|exact m2|exact m3|exact m4|exact m5|exact m6|exact m7|exact m8|exact m9))|((with_reducible apply t_id);first|(with_reducible apply t_seq)|(apply t_region;kernel_rfl)|(apply t_drawn;kernel_rfl;decide +kernel;try simp only [List.append_eq,List.cons_append,List.nil_append])|((with_reducible apply t_condT);exact rfl)|((with_reducible apply t_condF);exact rfl)|(with_reducible apply t_ret)|(with_reducible apply t_skip)|(with_reducible apply t_block))|with_reducible apply q_thenN|with_reducible apply q_thenR|with_reducible apply q_blockR|exact P0|exact Rdn.zero|apply Rdn.succ|((with_reducible apply Norm.nil);exact rfl)|((with_reducible apply Norm.cons);exact rfl)|(with_reducible apply end_ret)|exact rvs_nil|(with_reducible apply rvs_cons)|((with_reducible apply rv_tmp);exact rfl)|exact Nat.le_of_ble_eq_true rfl)
       all_goals (rw [ratesV_no (List.mem_of_getElem? hz) hnone];exact ⟨_,⟨none,(fun _=>rfl),rfl,rfl⟩,HpSub.nil⟩)
     · rw [if_neg hs1] at er
       have hpre':=pre_snoc hpre hz er
       rcases o with _|⟨bo,co⟩
       · obtain rfl:=ho rfl
         repeat' (first|((with_reducible apply oq_id);first|(focus ((with_reducible apply oq_indexAddrN);(iterate 4 exact rfl);omega))|((with_reducible apply oq_neg);exact rfl;(refine ⟨?_,?_⟩<;>omega))|((with_reducible apply (oq_max2E (k:=fr)));exact rfl;exact rfl;exact hfr)|((with_reducible apply (oq_max3E (r:=nr)));(iterate 3 exact rfl);exact hnr)|(focus ((with_reducible apply (oq_mulE (k:=v*v)));(iterate 3 exact rfl);(refine ⟨?_,?_⟩<;>omega)))|(focus ((with_reducible apply (oq_mulE (k:=fr*fr)));(iterate 3 exact rfl);(refine ⟨?_,?_⟩<;>omega)))|(focus ((with_reducible apply (oq_mulE (k:=nr*nr)));(iterate 3 exact rfl);(refine ⟨?_,?_⟩<;>omega)))|(focus ((with_reducible apply (oq_subE (k:=v*v-fr*fr)));exact rfl;exact rfl;omega))|(focus ((with_reducible apply (oq_subE (k:=v*v-nr*nr)));exact rfl;exact rfl;omega))|(focus ((with_reducible apply (oq_addE (k:=al+r0)));exact rfl;exact rfl;omega))|(focus ((with_reducible apply (oq_addE (k:=ah+r1)));exact rfl;exact rfl;omega))|((with_reducible apply oq_gtrF);exact rfl;exact rfl;omega)|((with_reducible apply oq_lssT);exact rfl;exact rfl;omega)|((with_reducible apply oq_lssF);exact rfl;exact rfl;omega)|(apply oq_fn;exact rfl;first|exact trivial|(and_intros<;>omega)|omega|skip)|((with_reducible apply oq_load);exact rfl;exact rfl)|((with_reducible apply oq_loadAgg);exact rfl;exact rfl)|((with_reducible apply oq_call (hc:=Try.call27));exact rfl;exact rfl;exact fun D w1 hw1=>HX w1 hw1.ext.ext)|((with_reducible apply oq_call (hc:=Try.call31));exact rfl;exact rfl;exact fun D w1 hw1=>HA w1)|((with_reducible apply oq_call (hc:=Try.call31));exact rfl;exact rfl;exact fun D w1 hw1=>HC w1)|((with_reducible apply oq_call (hc:=Try.call74));exact rfl;exact rfl;exact fun D w1 hw1=>HR w1)|((with_reducible apply oq_build);(iterate 3 exact rfl)))|((with_reducible apply tl_id);first|(with_reducible apply tl_nil)|((with_reducible apply u_q);(iterate 4 exact rfl))|((with_reducible apply u_s0);exact rfl;exact rfl)|((with_reducible apply u_s);(iterate 3 exact rfl)))|((with_reducible apply gx_id);first|(with_reducible apply v_nil)|((with_reducible apply v_q);(iterate 3 exact rfl)))|((with_reducible apply os_id);first|((with_reducible apply os_x);exact rfl)|((with_reducible apply os_storeAgg);(iterate 5 exact rfl))|((with_reducible apply os_appendNil (hk:=app_ok199));exact rfl;exact rfl))|((with_reducible apply ox_id);first|((with_reducible apply ox_alloc);exact rfl;intro _)|((with_reducible apply ox_buildSlice2);(iterate 6 exact rfl);intro _))|((with_reducible apply rd_id);first|(apply Rd.own;(repeat first|exact P0|apply P1);exact rfl;done)|(apply Rd.old;(first|(with_reducible assumption)|exact c0|exact c1|exact c2|exact c3|exact c4|exact c5|exact c6|exact c7|exact c8|exact d0|exact d1|exact d2|exact d3|exact d4|exact d5);first|exact List.not_mem_nil|exact m0|exact m1|exact m2|exact m3|exact m4|exact m5|exact m6|exact m7|exact m8|exact m9))|((with_reducible apply t_id);first|(with_reducible apply t_seq)|(apply t_region;kernel_rfl)|(apply t_drawn;kernel_rfl;decide +kernel;try simp only [List.append_eq,List.cons_append,List.nil_append])|((with_reducible apply t_condT);exact rfl)|((with_reducible apply t_condF);exact rfl)|(with_reducible apply t_skip)|(with_reducible apply t_block))|with_reducible apply q_thenN|with_reducible apply q_blockN|exact P0|exact Rdn.zero|apply Rdn.succ|((with_reducible apply Norm.nil);exact rfl)|((with_reducible apply Norm.cons);exact rfl)|exact Nat.le_of_ble_eq_true rfl|exact (rfl:(_:Bool)=true)|(intro _ _;with_reducible apply tl_id))
         all_goals (rename_i bN cN;refine ⟨(_++[(al+r0,ah+r1)],some (bN,cN)),⟨(by simp only [List.length_append,List.length_singleton,List.length_nil];first|exact hlt|omega),hpre',fun h=>by cases h⟩,(by simp only [List.length_append,List.length_singleton,List.length_nil];omega),?_,?_⟩<;>(try simp only [sR_snoc,hR_snoc,List.length_append,List.length_singleton])<;>(repeat' (first|exact FrSub.nil|(apply FrSub.cons;exact rfl)|exact HpSub.refl _|(apply HpSub.consE;(repeat first|exact P0|apply P1);first|exact rfl|(simp [rtCells];done))|apply HpSub.skipX)))
       · repeat' (first|((with_reducible apply oq_id);first|(focus ((with_reducible apply oq_indexAddrN);(iterate 4 exact rfl);omega))|((with_reducible apply oq_neg);exact rfl;(refine ⟨?_,?_⟩<;>omega))|((with_reducible apply (oq_max2E (k:=fr)));exact rfl;exact rfl;exact hfr)|((with_reducible apply (oq_max3E (r:=nr)));(iterate 3 exact rfl);exact hnr)|(focus ((with_reducible apply (oq_mulE (k:=v*v)));(iterate 3 exact rfl);(refine ⟨?_,?_⟩<;>omega)))|(focus ((with_reducible apply (oq_mulE (k:=fr*fr)));(iterate 3 exact rfl);(refine ⟨?_,?_⟩<;>omega)))|(focus ((with_reducible apply (oq_mulE (k:=nr*nr)));(iterate 3 exact rfl);(refine ⟨?_,?_⟩<;>omega)))|(focus ((with_reducible apply (oq_subE (k:=v*v-fr*fr)));exact rfl;exact rfl;omega))|(focus ((with_reducible apply (oq_subE (k:=v*v-nr*nr)));exact rfl;exact rfl;omega))|(focus ((with_reducible apply (oq_addE (k:=al+r0)));exact rfl;exact rfl;omega))|(focus ((with_reducible apply (oq_addE (k:=ah+r1)));exact rfl;exact rfl;omega))|(focus ((with_reducible apply (oq_addE (k:=((acc.length+1:Nat):Int))));exact rfl;exact rfl;omega))|((with_reducible apply oq_gtrF);exact rfl;exact rfl;omega)|((with_reducible apply oq_lssT);exact rfl;exact rfl;omega)|((with_reducible apply oq_lssF);exact rfl;exact rfl;omega)|(apply oq_fn;exact rfl;first|exact trivial|(and_intros<;>omega)|omega|skip)|((with_reducible apply oq_load);exact rfl;exact rfl)|((with_reducible apply oq_loadAgg);exact rfl;exact rfl)|((with_reducible apply oq_call (hc:=Try.call27));exact rfl;exact rfl;exact fun D w1 hw1=>HX w1 hw1.ext.ext)|((with_reducible apply oq_call (hc:=Try.call31));exact rfl;exact rfl;exact fun D w1 hw1=>HA w1)|((with_reducible apply oq_call (hc:=Try.call31));exact rfl;exact rfl;exact fun D w1 hw1=>HC w1)|((with_reducible apply oq_call (hc:=Try.call74));exact rfl;exact rfl;exact fun D w1 hw1=>HR w1)|((with_reducible apply oq_build);(iterate 3 exact rfl)))|((with_reducible apply tl_id);first|(with_reducible apply tl_nil)|((with_reducible apply u_q);(iterate 4 exact rfl))|((with_reducible apply u_s0);exact rfl;exact rfl)|((with_reducible apply u_s);(iterate 3 exact rfl)))|((with_reducible apply gx_id);first|(with_reducible apply v_nil)|((with_reducible apply v_q);(iterate 3 exact rfl)))|((with_reducible apply os_id);first|((with_reducible apply os_x);exact rfl)|((with_reducible apply os_storeAgg);(iterate 5 exact rfl))|((with_reducible apply os_append (hk:=app_ok199));exact rfl;exact rfl;(repeat first|exact P0|apply P1)))|((with_reducible apply ox_id);first|((with_reducible apply ox_alloc);exact rfl;intro _)|((with_reducible apply ox_buildSlice2);(iterate 6 exact rfl);intro _))|((with_reducible apply rd_id);first|(apply Rd.own;(repeat first|exact P0|apply P1);exact rfl;done)|(apply Rd.old;(first|(with_reducible assumption)|exact c0|exact c1|exact c2|exact c3|exact c4|exact c5|exact c6|exact c7|exact c8|exact d0|exact d1|exact d2|exact d3|exact d4|exact d5);first|exact List.not_mem_nil|exact m0|exact m1|exact m2|exact m3|exact m4|exact m5|exact m6|exact m7|exact m8|exact m9))|((with_reducible apply t_id);first|(with_reducible apply t_seq)|(apply t_region;kernel_rfl)|(apply t_drawn;kernel_rfl;decide +kernel;try simp only [List.append_eq,List.cons_append,List.nil_append])|((with_reducible apply t_condT);exact rfl)|((with_reducible apply t_condF);exact rfl)|(with_reducible apply t_skip)|(with_reducible apply t_block))|with_reducible apply q_thenN|with_reducible apply q_blockN|exact P0|exact Rdn.zero|apply Rdn.succ|((with_reducible apply Norm.nil);exact rfl)|((with_reducible apply Norm.cons);exact rfl)|exact rt_len _|exact Nat.le_of_ble_eq_true rfl|exact (rfl:(_:Bool)=true)|omega|(intro _ _;with_reducible apply tl_id))
         all_goals (rename_i bN cN;refine ⟨(acc++[(al+r0,ah+r1)],some (bN,cN)),⟨(by simp only [List.length_append,List.length_singleton];first|exact hlt|omega),hpre',fun h=>by cases h⟩,(by simp only [List.length_append,List.length_singleton];omega),?_,?_⟩<;>(try simp only [sR_snoc,hR_snoc,List.length_append,List.length_singleton])<;>(repeat' (first|exact FrSub.nil|(apply FrSub.cons;exact rfl)|exact HpSub.refl _|(apply HpSub.consE;(repeat first|exact P0|apply P1);first|exact rfl|(simp [rtCells];done))|apply HpSub.skipX)))
 · have hv3:=ratesV_pre hpre (by omega)
   repeat' (first|((with_reducible apply oq_id);first|((with_reducible apply oq_lssF);exact rfl;exact rfl;omega)|(apply oq_fn;exact rfl;first|exact trivial|(and_intros<;>omega)|omega|skip))|((with_reducible apply tl_id);first|(with_reducible apply tl_nil)|((with_reducible apply u_q);(iterate 4 exact rfl)))|((with_reducible apply t_id);first|(with_reducible apply t_seq)|(apply t_region;kernel_rfl)|((with_reducible apply t_condF);exact rfl)|(with_reducible apply t_ret)|(with_reducible apply t_exit))|with_reducible apply q_thenN|with_reducible apply q_thenE|((with_reducible apply q_blockE);exact rfl)|(with_reducible apply end_ret)|exact rvs_nil|(with_reducible apply rvs_cons)|((with_reducible apply rv_tmp);exact rfl))
   all_goals (rw [hv3];exact ⟨_,⟨o,ho,rfl,rfl⟩,HpSub.skipX (by simp only [List.append_nil];exact HpSub.refl _)⟩)
def upV (q1 q2 h:Int):Int:=max q1 (h+q2)
def turnX (bk:Bool) (x:Int):Int:=if bk then -x else x
theorem tdiv_nat {m n:Int} {a b:Nat} (e:m=(a:Int)) (e2:n=(b:Int)):m.tdiv n=((a / b:Nat):Int):=by rw [e,e2];rfl
theorem tmod_natO {m n:Int} {a b:Nat} (e:m=(a:Int)) (e2:n=(b:Int)):m.tmod n=((a % b:Nat):Int):=by rw [e,e2,Int.ofNat_tmod]
def qf (m:Nat):Nat:=m / 60
def qc (m:Nat):Nat:=if m % 60=0 then m / 60 else m / 60+1
theorem qf_bound {m:Nat} (h:m≤10000000000000):qf m≤166666666666∧qf m≤qc m∧qc m≤166666666667:=by
 unfold qf qc
 split<;>omega
theorem share60_calls (x y:Nat) (hx:x≤10000000) (hy:y≤1000000) (w:World):Calls Try.prog 150 #[.int .i64 (x:Nat),.int .i64 (y:Nat),.int .i64 60] w fun e w'=>e=.returned (.agg #[.int .i64 (qf (x*y):Nat),.int .i64 (qc (x*y):Nat)])∧Ext w w':=by
 have hm:x*y≤10000000000000:=Nat.le_trans (Nat.mul_le_mul hx hy) (by decide)
 have SX:=fun w1=>size_calls (x:Int) (by omega) (by omega) w1
 have SY:=fun w1=>size_calls (y:Int) (by omega) (by omega) w1
 rw [Int.max_eq_left (by omega)] at SX SY
 have MX:=fun w1=>mul64_calls (x:Int) (y:Int) (by omega) (by omega) (by omega) (by omega) w1
 have em:(x:Int)*(y:Int)=((x*y:Nat):Int):=by simp
 rw [em] at MX
 have qb:=qf_bound hm
 have hqc:qc (x*y)=if (x*y) % 60=0 then qf (x*y) else qf (x*y)+1:=rfl
 have DX:=fun w1=>div64_calls ((x*y:Nat):Int) 60 (by omega) (by omega) (by omega) w1
 rw [show ((x*y:Nat):Int).tdiv 60=((qf (x*y):Nat):Int) from tdiv_nat rfl rfl,show ((x*y:Nat):Int).tmod 60=((x*y % 60:Nat):Int) from tmod_natO rfl rfl] at DX
 clear em
 generalize qf (x*y)=a at *
 generalize qc (x*y)=b at *
 have hr:x*y % 60<60:=Nat.mod_lt _ (by omega)
 generalize x*y % 60=r at *
 generalize x*y=m at *
 by_cases h0:r=0
 · rw [if_pos h0] at hqc
   subst hqc
   refine enterQ (c:=cx w 64) Try.func150 rfl rfl rfl rfl ?_
   repeat' (first|((with_reducible apply oq_id);first|(focus ((with_reducible apply oq_convU);(iterate 3 exact rfl);(refine ⟨?_,?_⟩<;>omega)))|(focus ((with_reducible apply oq_neqB);exact rfl;exact rfl))|((with_reducible apply oq_gtrF);exact rfl;exact rfl;omega)|((with_reducible apply oq_lssT);exact rfl;exact rfl;omega)|((with_reducible apply oq_lssF);exact rfl;exact rfl;omega)|(apply oq_fn;exact rfl;first|exact trivial|(and_intros<;>omega)|omega|skip)|((with_reducible apply oq_loadAgg);exact rfl;exact rfl)|((with_reducible apply oq_call (hc:=Try.call175));exact rfl;exact rfl;exact fun D w1 hw1=>SX w1)|((with_reducible apply oq_call (hc:=Try.call175));exact rfl;exact rfl;exact fun D w1 hw1=>SY w1)|((with_reducible apply oq_call (hc:=Try.call174));exact rfl;exact rfl;exact fun D w1 hw1=>MX w1)|((with_reducible apply oq_call (hc:=Try.call176));exact rfl;exact rfl;exact fun D w1 hw1=>DX w1)|((with_reducible apply oq_build);(iterate 3 exact rfl)))|((with_reducible apply tl_id);first|(with_reducible apply tl_nil)|((with_reducible apply u_q);(iterate 4 exact rfl))|((with_reducible apply u_s0);exact rfl;exact rfl)|((with_reducible apply u_s);(iterate 3 exact rfl)))|((with_reducible apply os_id);first|((with_reducible apply os_x);exact rfl)|((with_reducible apply os_storeAgg);(iterate 5 exact rfl)))|((with_reducible apply ox_id);first|((with_reducible apply ox_alloc);exact rfl;intro _))|((with_reducible apply rd_id);first|(apply Rd.own;(repeat first|exact P0|apply P1);exact rfl;done))|((with_reducible apply t_id);first|(with_reducible apply t_seq)|(apply t_region;kernel_rfl)|((with_reducible apply t_condT);exact rfl)|((with_reducible apply t_condF);exact rfl)|(with_reducible apply t_ret)|(with_reducible apply t_skip))|with_reducible apply q_thenN|exact P0|(with_reducible apply P1)|exact Rdn.zero|apply Rdn.succ|((with_reducible apply Norm.nil);exact rfl)|((with_reducible apply Norm.cons);exact rfl)|(with_reducible apply end_ret)|exact rvs_nil|(with_reducible apply rvs_cons)|((with_reducible apply rv_cellAgg);exact rfl;exact rfl)|exact Nat.le_of_ble_eq_true rfl)
   all_goals first|rfl|(exfalso;simp_all;omega)
 · rw [if_neg h0] at hqc
   subst hqc
   refine enterQ (c:=cx w 64) Try.func150 rfl rfl rfl rfl ?_
   repeat' (first|((with_reducible apply oq_id);first|(focus ((with_reducible apply oq_convU);(iterate 3 exact rfl);(refine ⟨?_,?_⟩<;>omega)))|(focus ((with_reducible apply oq_neqB);exact rfl;exact rfl))|((with_reducible apply oq_gtrT);exact rfl;exact rfl;omega)|((with_reducible apply oq_lssT);exact rfl;exact rfl;omega)|((with_reducible apply oq_lssF);exact rfl;exact rfl;omega)|(apply oq_fn;exact rfl;first|exact trivial|(and_intros<;>omega)|omega|skip)|((with_reducible apply oq_load);exact rfl;exact rfl)|((with_reducible apply oq_loadAgg);exact rfl;exact rfl)|((with_reducible apply oq_call (hc:=Try.call175));exact rfl;exact rfl;exact fun D w1 hw1=>SX w1)|((with_reducible apply oq_call (hc:=Try.call175));exact rfl;exact rfl;exact fun D w1 hw1=>SY w1)|((with_reducible apply oq_call (hc:=Try.call174));exact rfl;exact rfl;exact fun D w1 hw1=>MX w1)|((with_reducible apply oq_call (hc:=Try.call176));exact rfl;exact rfl;exact fun D w1 hw1=>DX w1)|((with_reducible apply oq_build);(iterate 3 exact rfl)))|((with_reducible apply tl_id);first|(with_reducible apply tl_nil)|((with_reducible apply u_q);(iterate 4 exact rfl))|((with_reducible apply u_s0);exact rfl;exact rfl)|((with_reducible apply u_s);(iterate 3 exact rfl)))|((with_reducible apply os_id);first|((with_reducible apply os_x);exact rfl)|((with_reducible apply os_store);(iterate 4 exact rfl))|((with_reducible apply os_storeAgg);(iterate 5 exact rfl)))|((with_reducible apply ox_id);first|((with_reducible apply ox_alloc);exact rfl;intro _))|((with_reducible apply rd_id);first|(apply Rd.own;(repeat first|exact P0|apply P1);exact rfl;done))|((with_reducible apply t_id);first|(with_reducible apply t_seq)|(apply t_region;kernel_rfl)|((with_reducible apply t_condT);exact rfl)|((with_reducible apply t_condF);exact rfl)|(with_reducible apply t_ret)|(with_reducible apply t_skip))|with_reducible apply q_thenN|exact P0|(with_reducible apply P1)|exact Rdn.zero|apply Rdn.succ|((with_reducible apply Norm.nil);exact rfl)|((with_reducible apply Norm.cons);exact rfl)|(with_reducible apply end_ret)|exact rvs_nil|(with_reducible apply rvs_cons)|((with_reducible apply rv_cellAgg);exact rfl;exact rfl)|exact Nat.le_of_ble_eq_true rfl)
   all_goals first|rfl|(exfalso;simp_all;omega)
def prN (a b c d:Nat) (k:Nat):Nat:=(if k % 2=1 then b else a)*(if k / 2 % 2=1 then d else c)
def aL (a b c d:Nat):Nat→Nat
 | 0=>qf (a*c)
 | k+1=>min (aL a b c d k) (qf (prN a b c d k))
def aH (a b c d:Nat):Nat→Nat
 | 0=>qc (a*c)
 | k+1=>max (aH a b c d k) (qc (prN a b c d k))
theorem prN_bound {a b c d k:Nat} (hab:a≤b) (hb:b≤10000000) (hcd:c≤d) (hd:d≤1000000):prN a b c d k≤10000000000000:=by
 unfold prN
 have h1:(if k % 2=1 then b else a)≤10000000:=by split<;>omega
 have h2:(if k / 2 % 2=1 then d else c)≤1000000:=by split<;>omega
 exact Nat.le_trans (Nat.mul_le_mul h1 h2) (by decide)
theorem a_bound {a b c d:Nat} (hab:a≤b) (hb:b≤10000000) (hcd:c≤d) (hd:d≤1000000):∀ k,aL a b c d k≤166666666667∧aH a b c d k≤166666666667
 | 0=>by
   have:=qf_bound (m:=a*c) (Nat.le_trans (Nat.mul_le_mul (show a≤10000000 by omega) (show c≤1000000 by omega)) (by decide))
   unfold aL aH;omega
 | k+1=>by
   have:=a_bound hab hb hcd hd k
   have:=qf_bound (prN_bound (k:=k) hab hb hcd hd)
   unfold aL aH;omega
def tLo (m:Nat) (r:Int×Int):Nat:=10*m / r.2.toNat
def tHi (m:Nat) (r:Int×Int):Nat:=(10*m+r.1.toNat-1) / r.1.toNat
def hullT (m:Nat):List (Int×Int)→Nat×Nat
 | []=>(0,0)
 | r::l=>l.foldl (fun a r=>(min a.1 (tLo m r),max a.2 (tHi m r))) (tLo m r,tHi m r)
theorem hullT_one (m:Nat) (r:Int×Int):hullT m [r]=(tLo m r,tHi m r):=rfl
theorem hullT_snoc {m:Nat} {l:List (Int×Int)} (h:l≠[]) (r:Int×Int):hullT m (l++[r])=(min (hullT m l).1 (tLo m r),max (hullT m l).2 (tHi m r)):=by
 cases l with
 | nil=>exact absurd rfl h
 | cons a l=>simp only [List.cons_append,hullT,List.foldl_append,List.foldl_cons,List.foldl_nil]
def RtOk (r:Int×Int):Prop:=1≤r.1∧r.1≤r.2∧r.2≤5001
theorem tb {m:Nat} {r:Int×Int} (h:RtOk r) (hm:m≤1000000):tLo m r≤tHi m r∧tHi m r≤10*m:=by
 obtain ⟨h1,h2,h3⟩:=h
 unfold tLo tHi
 obtain ⟨s,hs⟩:∃ s,r.1.toNat=s:=⟨_,rfl⟩
 obtain ⟨f,hf⟩:∃ s,r.2.toNat=s:=⟨_,rfl⟩
 rw [hs,hf]
 have hs1:1≤s:=by omega
 have hsf:s≤f:=by omega
 constructor
 · refine Nat.le_trans (Nat.div_le_div_left hsf (by omega)) (Nat.div_le_div_right (by omega))
 · refine Nat.le_of_lt_succ (Nat.div_lt_of_lt_mul ?_)
   have:10*m+s≤s*(10*m+1):=by
     rw [Nat.mul_add,Nat.mul_one]
     have:=Nat.mul_le_mul hs1 (Nat.le_refl (10*m))
     omega
   show 10*m+s-1<s*(10*m+1)
   omega
theorem hullT_bound {m:Nat} (hm:m≤1000000):∀ (l:List (Int×Int)),(∀ r∈l,RtOk r)→(hullT m l).1≤(hullT m l).2∧(hullT m l).2≤10*m
 | [],_=>⟨Nat.le_refl _,Nat.zero_le _⟩
 | a::l,h=>by
   have key:∀ (l:List (Int×Int)) (z:Nat×Nat),(∀ r∈l,RtOk r)→z.1≤z.2∧z.2≤10*m→(l.foldl (fun a r=>(min a.1 (tLo m r),max a.2 (tHi m r))) z).1≤(l.foldl (fun a r=>(min a.1 (tLo m r),max a.2 (tHi m r))) z).2∧(l.foldl (fun a r=>(min a.1 (tLo m r),max a.2 (tHi m r))) z).2≤10*m:=by
     intro l
     induction l with
     | nil=>intro z _ hz;exact hz
     | cons b l ih=>
       intro z hb hz
       have:=tb (hb b (List.mem_cons_self ..)) hm
       exact ih _ (fun r hr=>hb r (List.mem_cons_of_mem _ hr)) ⟨by simp only;omega,by simp only;omega⟩
   exact key l _ (fun r hr=>h r (List.mem_cons_of_mem _ hr)) (tb (h a (List.mem_cons_self ..)) hm)
noncomputable def legR (v q1 q2 q3 h x y:Int) (bk:Bool) (L:List Wn):List (Int×Int):=
 if q3<upV q1 q2 h then [] else ratesV v (upV q1 q2 h) (turnX bk x) (turnX bk y) L
def partV (R:List (Int×Int)) (m g0 g1:Nat):Value:=
 if R=[] then .tuple #[.agg #[.int .i64 0,.int .i64 0],.agg #[.int .i64 0,.int .i64 0],.bool false] else
 .tuple #[.agg #[.int .i64 ((hullT m R).1:Nat),.int .i64 ((hullT m R).2:Nat)],.agg #[.int .i64 (aL (hullT m R).1 (hullT m R).2 g0 g1 8:Nat),.int .i64 (aH (hullT m R).1 (hullT m R).2 g0 g1 8:Nat)],.bool true]
theorem turn_way {x y:Int} (h:WayIn x y) (bk:Bool):WayIn (turnX bk x) (turnX bk y):=by
 cases bk
 · exact h
 · exact h.neg
noncomputable def lengthR (m:Nat) (L:List Lg) (i:Int):Int×Int:=
 if chartB m L then (if 0≤i∧i≤(L.length:Int)-1 then (match L[i.toNat]? with|some z=>(lenV z.x z.y,0)|none=>(0,2)) else (0,2)) else (0,61)
theorem lengthR_in {m:Nat} {L:List Lg} {j:Nat} {z:Lg} (h:chartB m L=true) (hz:L[j]?=some z):lengthR m L (j:Int)=(lenV z.x z.y,0):=by
 have:=(List.getElem?_eq_some_iff.1 hz).1
 unfold lengthR
 rw [if_pos h,if_pos (by omega),Int.toNat_natCast,hz]
theorem lengthR_out {m:Nat} {L:List Lg} {i:Int} (h:chartB m L=true) (hi:¬ (0≤i∧i≤(L.length:Int)-1)):lengthR m L i=(0,2):=by
 unfold lengthR
 rw [if_pos h,if_neg hi]
theorem lengthR_bad {m:Nat} {L:List Lg} {i:Int} (h:chartB m L=false):lengthR m L i=(0,61):=by
 unfold lengthR
 rw [h];rfl
theorem routeLength_calls (AM A:Option Addr) (m cM n cp:Nat) (L:List Lg) (w:World) (hr:RdS w 5 A n (L.map lgCells)) (hn:n≤1000000) (hm:m≤1000000) (i:Int):Calls Try.prog 14 #[.agg #[.slice AM m cM,.slice A n cp],.int .i64 i] w fun e w'=>e=.returned (.tuple #[.int .i64 (lengthR m L i).1,.int .i64 (lengthR m L i).2])∧Ext w w':=by
 have hl:L.length=n:=by simpa using hr.len
 have HC:=fun w1 (hx:Ext w w1)=>checkChart_calls AM A m cM n cp L w1 (hr.ext hx) hn hm
 cases hb:chartB m L with
 | false=>
   rw [hb] at HC
   rw [lengthR_bad hb]
   refine enterQ (c:=cx w 26) Try.func14 rfl rfl rfl rfl ?_
   repeat' (first|((with_reducible apply oq_id);first|(apply oq_fn;exact rfl;first|exact trivial|(and_intros<;>omega)|omega|skip)|((with_reducible apply oq_loadAgg);exact rfl;exact rfl)|((with_reducible apply oq_call (hc:=Try.call18));exact rfl;exact rfl;exact fun D w1 hw1=>HC w1 hw1.ext.ext))|((with_reducible apply tl_id);first|(with_reducible apply tl_nil)|((with_reducible apply u_q);(iterate 4 exact rfl))|((with_reducible apply u_s);(iterate 3 exact rfl)))|((with_reducible apply os_id);first|((with_reducible apply os_x);exact rfl))|((with_reducible apply ox_id);first|((with_reducible apply ox_boxAgg);exact rfl;intro _))|((with_reducible apply rd_id);first|(apply Rd.own;(repeat first|exact P0|apply P1);exact rfl;done))|((with_reducible apply t_id);first|(with_reducible apply t_seq)|(apply t_region;kernel_rfl)|((with_reducible apply t_condT);exact rfl)|(with_reducible apply t_ret))|with_reducible apply q_thenN|with_reducible apply q_thenR|exact Rdn.zero|apply Rdn.succ|(with_reducible apply end_ret)|exact rvs_nil|(with_reducible apply rvs_cons)|((with_reducible apply rv_tmp);exact rfl))
   all_goals rfl
 | true=>
 rw [hb] at HC
 by_cases hi:0≤i∧i≤(n:Int)-1
 · obtain ⟨j,rfl⟩:=Int.eq_ofNat_of_zero_le hi.1
   obtain ⟨b,o,z,rfl,_,hz,c0,c1,c2,c3,c4⟩:=lg_read hr (show j<n by omega)
   have hk:=(chartB_iff.1 hb).2.2 z (List.mem_of_getElem? hz)
   obtain ⟨_,_,_,kx,ky,_,_⟩:=hk
   have HL:=fun w1=>length_calls z.a z.b z.x z.y z.h kx ky w1
   rw [lengthR_in hb hz]
   refine enterQ (c:=cx w 26) Try.func14 rfl rfl rfl rfl ?_
   repeat' (first|((with_reducible apply oq_id);first|(focus ((with_reducible apply (oq_subE (k:=(n:Int)-1)));exact rfl;exact rfl;omega))|(focus ((with_reducible apply oq_indexAddrN (i:=j));(iterate 4 exact rfl);omega))|(apply oq_fn;exact rfl;first|exact trivial|(and_intros<;>omega)|omega|skip)|((with_reducible apply oq_load);exact rfl;exact rfl)|((with_reducible apply oq_loadAgg);exact rfl;exact rfl)|((with_reducible apply oq_call (hc:=Try.call45));exact rfl;exact rfl;(intro D w1 hw1;refine rfrom1_t ?_ hw1 (by (repeat first|exact P0|apply P1));omega))|((with_reducible apply oq_call (hc:=Try.call18));exact rfl;exact rfl;exact fun D w1 hw1=>HC w1 hw1.ext.ext)|((with_reducible apply oq_call (hc:=Try.call55));exact rfl;exact rfl;exact fun D w1 hw1=>HL w1))|((with_reducible apply tl_id);first|(with_reducible apply tl_nil)|((with_reducible apply u_q);(iterate 4 exact rfl))|((with_reducible apply u_s);(iterate 3 exact rfl)))|((with_reducible apply os_id);first|((with_reducible apply os_x);exact rfl))|((with_reducible apply ox_id);first|((with_reducible apply ox_boxAgg);exact rfl;intro _)|((with_reducible apply ox_buildSlice1);(iterate 6 exact rfl);intro _))|((with_reducible apply rd_id);first|(apply Rd.own;(repeat first|exact P0|apply P1);exact rfl;done)|(apply Rd.old;(first|(with_reducible assumption)|exact c0|exact c1|exact c2|exact c3|exact c4|exact c5|exact c6|exact c7|exact c8|exact d0|exact d1|exact d2|exact d3|exact d4|exact d5);first|exact List.not_mem_nil|exact m0|exact m1|exact m2|exact m3|exact m4|exact m5|exact m6|exact m7|exact m8|exact m9))|((with_reducible apply t_id);first|(with_reducible apply t_seq)|(apply t_region;kernel_rfl)|((with_reducible apply t_condF);exact rfl)|(with_reducible apply t_ret)|(with_reducible apply t_skip))|with_reducible apply q_thenN|exact Rdn.zero|apply Rdn.succ|(with_reducible apply end_ret)|exact rvs_nil|(with_reducible apply rvs_cons)|((with_reducible apply rv_tmp);exact rfl))
   all_goals rfl
 · rw [lengthR_out hb (by omega)]
   refine enterQ (c:=cx w 26) Try.func14 rfl rfl rfl rfl ?_
   repeat' (first|((with_reducible apply oq_id);first|(focus ((with_reducible apply (oq_subE (k:=(n:Int)-1)));exact rfl;exact rfl;omega))|(apply oq_fn;exact rfl;first|exact trivial|(and_intros<;>omega)|omega|skip)|((with_reducible apply oq_load);exact rfl;exact rfl)|((with_reducible apply oq_loadAgg);exact rfl;exact rfl)|((with_reducible apply oq_call (hc:=Try.call45));exact rfl;exact rfl;(intro D w1 hw1;refine rfrom1_f ?_ hw1 (by (repeat first|exact P0|apply P1));omega))|((with_reducible apply oq_call (hc:=Try.call18));exact rfl;exact rfl;exact fun D w1 hw1=>HC w1 hw1.ext.ext))|((with_reducible apply tl_id);first|(with_reducible apply tl_nil)|((with_reducible apply u_q);(iterate 4 exact rfl))|((with_reducible apply u_s);(iterate 3 exact rfl)))|((with_reducible apply os_id);first|((with_reducible apply os_x);exact rfl))|((with_reducible apply ox_id);first|((with_reducible apply ox_boxAgg);exact rfl;intro _)|((with_reducible apply ox_buildSlice1);(iterate 6 exact rfl);intro _))|((with_reducible apply rd_id);first|(apply Rd.own;(repeat first|exact P0|apply P1);exact rfl;done))|((with_reducible apply t_id);first|(with_reducible apply t_seq)|(apply t_region;kernel_rfl)|((with_reducible apply t_condT);exact rfl)|((with_reducible apply t_condF);exact rfl)|(with_reducible apply t_ret)|(with_reducible apply t_skip))|with_reducible apply q_thenN|with_reducible apply q_thenR|exact Rdn.zero|apply Rdn.succ|(with_reducible apply end_ret)|exact rvs_nil|(with_reducible apply rvs_cons)|((with_reducible apply rv_tmp);exact rfl))
   all_goals rfl
theorem lenV_bound {x y:Int} (hx : -7000≤x∧x≤7000) (hy : -7000≤y∧y≤7000):0≤lenV x y∧lenV x y≤1000000:=by
 have b1:=mul_abs (x:=x) (y:=x) (a:=7000) (b:=7000) (by omega) (by omega)
 have b2:=mul_abs (x:=y) (y:=y) (a:=7000) (b:=7000) (by omega) (by omega)
 have c1:=sq_nn x
 have c2:=sq_nn y
 unfold lenV rootV
 obtain ⟨N,hN⟩:∃ N,10000*(x*x+y*y)=N:=⟨_,rfl⟩
 rw [hN]
 have hN0:0≤N∧N≤980000000000:=by omega
 have f1:fineS (N,N)=true:=(fineS_iff _).2 ⟨Int.le_refl _,by show _≤N;omega,by show N≤_;omega⟩
 rw [if_pos f1,if_neg (by omega)]
 obtain ⟨r1,r2,r3⟩:=rt_spec N hN0.1
 have r4:rt N≤999998:=sq_bound r1 (by omega) (by omega)
 simp only
 split<;>omega
def askE (m:Nat) (L:List Lg) (v q1 q2 q3 q4 g0 g1:Int) (C:List Wn):Int:=if chartB m L then (if paceB v q1 q2 q3 q4 g0 g1 then castE C else 62) else 61
noncomputable def legRz (v q1 q2 q3:Int) (z:Lg) (bk:Bool) (C:List Wn):List (Int×Int):=legR v q1 q2 q3 z.h z.x z.y bk C
def no3 (e:Int):Value:=.tuple #[.agg #[.int .i64 0,.int .i64 0],.agg #[.int .i64 0,.int .i64 0],.int .i64 e]
def fullV (R:List (Int×Int)) (m g0 g1:Nat):Value:=
 if R=[] then no3 63 else .tuple #[.agg #[.int .i64 ((hullT m R).1:Nat),.int .i64 ((hullT m R).2:Nat)],.agg #[.int .i64 (aL (hullT m R).1 (hullT m R).2 g0 g1 8:Nat),.int .i64 (aH (hullT m R).1 (hullT m R).2 g0 g1 8:Nat)],.int .i64 0]
noncomputable def partR (m:Nat) (L:List Lg) (v q1 q2 q3 q4 g0 g1:Int) (C:List Wn) (i:Int) (bk:Bool) (me:Int):Value:=
 if askE m L v q1 q2 q3 q4 g0 g1 C=0 then (if 0≤i∧i≤(L.length:Int)-1 then (match L[i.toNat]? with
   | some z=>if 0≤me∧me≤lenV z.x z.y then fullV (legRz v q1 q2 q3 z bk C) me.toNat g0.toNat g1.toNat else no3 2
   | none=>no3 2) else no3 2) else no3 (askE m L v q1 q2 q3 q4 g0 g1 C)
end Go.Proofs.Ytcjkndjjbjoehaa
