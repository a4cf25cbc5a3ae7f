/- A part of the proof: rules for walks, and contracts of functions (6). -/
import Derived.Test.YtcjkndjjbjoehaaGreatXBA
import Derived.Test.YtcjkndjjbjoehaaGreatXBC
import Derived.Test.YtcjkndjjbjoehaaGreatXBD
import Derived.Test.YtcjkndjjbjoehaaGreatXBE
set_option linter.unusedVariables false
set_option linter.unusedSimpArgs false
set_option maxRecDepth 100000
set_option maxHeartbeats 2000000
namespace Go.Proofs.YtcjkndjjbjoehaaGreat
theorem goH0e {G A1 A2 A3 A4 A5 A6 A7 A8 A9 A10 A11 A12 A13 A14 A15 A16:Prop} (p:GoP A1 A2 A3 A4 A5 A6 A7 A8 A9 A10 A11 A12 A13 A14 A15 A16) (h:GoL A1→GoL A2→GoL A3→GoL A4→GoL A5→GoL A6→GoL A7→GoL A8→GoL A9→GoL A10→GoL A11→GoL A12→GoL A13→GoL A14→GoL A15→GoL A16→GoM→G:=by intro m1 m2 m3 m4 m5 m6 m7 m8 m9 m10 m11 m12 m13 m14 m15 m16 _;(repeat' (first|((with_reducible apply oq_id);first|((with_reducible apply oc_id);first|((with_reducible apply oq_call (hc:=Tryz.call67));exact rfl;exact rfl;(intro D w1 hw1;refine rfrom1_t ?_ hw1 (by (repeat first|exact P0|apply P1));omega))|((with_reducible apply oq_call (hc:=Tryz.call67));exact rfl;exact rfl;(intro D w1 hw1;refine rfrom1_f ?_ hw1 (by (repeat first|exact P0|apply P1));omega))|((with_reducible apply oq_call (hc:=Tryz.call67));exact rfl;exact rfl;(intro D w1 hw1;refine rfrom2_t ?_ hw1 (by (repeat first|exact P0|apply P1));omega))|((with_reducible apply oq_call (hc:=Tryz.call67));exact rfl;exact rfl;(intro D w1 hw1;refine rfrom2_f ?_ hw1 (by (repeat first|exact P0|apply P1));omega))|((with_reducible apply oq_call (hc:=Tryz.call71));exact rfl;exact rfl;(intro D w1 hw1;refine within6_t _ _ _ ?_ w1;omega))|((with_reducible apply oq_call (hc:=Tryz.call71));exact rfl;exact rfl;(intro D w1 hw1;refine within6_f _ _ _ ?_ w1;omega)))|((with_reducible apply ob_id);first|(focus ((with_reducible apply (oq_subE (k:=(m:Int)-1)));exact rfl;exact rfl;omega))|((with_reducible apply oq_eqlT);exact rfl;exact rfl;omega)|((with_reducible apply oq_eqlF);exact rfl;exact rfl;omega)|((with_reducible apply oq_gtrT);exact rfl;exact rfl;omega)|((with_reducible apply oq_gtrF);exact rfl;exact rfl;omega)|((with_reducible apply oq_lssT);exact rfl;exact rfl;omega)|((with_reducible apply oq_lssF);exact rfl;exact rfl;omega))|(focus ((with_reducible apply oq_indexAddrN);(iterate 4 exact rfl);omega))|(apply oq_fn;exact rfl;first|exact trivial|(and_intros<;>omega)|omega|skip)|((with_reducible apply oq_load);exact rfl;exact rfl)|((with_reducible apply oq_loadAgg);exact rfl;exact rfl))|((with_reducible apply tl_id);first|(with_reducible apply tl_nil)|((with_reducible apply u_q);(iterate 4 exact rfl))|((with_reducible apply u_s0);exact rfl;exact rfl)|((with_reducible apply u_s);(iterate 3 exact rfl))|((with_reducible apply u_skip);(iterate 3 exact rfl)))|((with_reducible apply os_id);first|((with_reducible apply os_x);exact rfl)|((with_reducible apply os_storeAgg);(iterate 5 exact rfl)))|((with_reducible apply ox_id);first|((with_reducible apply ox_alloc);exact rfl;intro _)|((with_reducible apply ox_boxAgg);exact rfl;intro _)|((with_reducible apply ox_buildSlice1);(iterate 6 exact rfl);intro _))|((with_reducible apply rd_id);first|(apply Rd.own;(repeat first|exact P0|apply P1);exact rfl;done)|(apply Rd.old;(first|(with_reducible assumption)|exact c0|exact c1|exact c2|exact c3|exact c4|exact c5|exact c6|exact c7|exact c8|exact d0|exact d1|exact d2|exact d3|exact d4|exact d5);first|exact List.not_mem_nil|exact m0|exact m1|exact m2|exact m3|exact m4|exact m5|exact m6|exact m7|exact m8|exact m9))|((with_reducible apply t_id);first|(with_reducible apply t_seq)|(apply t_region;kernel_rfl)|((with_reducible apply t_condT);exact rfl)|((with_reducible apply t_condF);exact rfl)|(with_reducible apply t_ret)|(with_reducible apply t_skip)|(with_reducible apply t_exit)|(with_reducible apply t_block))|with_reducible apply q_thenN|with_reducible apply q_thenR|with_reducible apply q_blockR|with_reducible apply q_blockN|with_reducible apply q_thenE|((with_reducible apply q_blockE);exact rfl)|exact P0|exact Rdn.zero|apply Rdn.succ|((with_reducible apply Norm.nil);exact rfl)|((with_reducible apply Norm.cons);exact rfl)|(with_reducible apply end_ret)|exact rvs_nil|(with_reducible apply rvs_cons)|((with_reducible apply rv_tmp);exact rfl)|exact Nat.le_of_ble_eq_true rfl));(try focus (repeat (rename_i x;first|exact goD x m1.p|revert x)));(try focus (repeat (rename_i x;first|exact goD x m2.p|revert x)));(try focus (repeat (rename_i x;first|exact goD x m3.p|revert x)));(try focus (repeat (rename_i x;first|exact goD x m4.p|revert x)));(try focus (repeat (rename_i x;first|exact goD x m5.p|revert x)));(try focus (repeat (rename_i x;first|exact goD x m6.p|revert x)));(try focus (repeat (rename_i x;first|exact goD x m7.p|revert x)));(try focus (repeat (rename_i x;first|exact goD x m8.p|revert x)));(try focus (repeat (rename_i x;first|exact goD x m9.p|revert x)));(try focus (repeat (rename_i x;first|exact goD x m10.p|revert x)));(try focus (repeat (rename_i x;first|exact goD x m11.p|revert x)));(try focus (repeat (rename_i x;first|exact goD x m12.p|revert x)));(try focus (repeat (rename_i x;first|exact goD x m13.p|revert x)));(try focus (repeat (rename_i x;first|exact goD x m14.p|revert x)));(try focus (repeat (rename_i x;first|exact goD x m15.p|revert x)));(try focus (repeat (rename_i x;first|exact goD x m16.p|revert x)))) (e:GoTs A1 A2 A3 A4 A5 A6 A7 A8 A9 A10 A11 A12 A13 A14 A15 A16:=by constructor<;>first|(with_reducible exact GoT.t)|exact GoT.u):G:=p.run h
open Go.RowKit
attribute [local irreducible] OQ OS OX Rd T TL GX GL AL AI RV wpG SAny Calls
structure Lg where
 a:Int
 b:Int
 x:Int
 y:Int
 h:Int
def lgCells (z:Lg):List Value:=[.int .i64 z.a,.int .i64 z.b,.int .i64 z.x,.int .i64 z.y,.int .i64 z.h]
theorem lg_read {w:World} {A:Option Addr} {n:Nat} {l:List Lg} (h:RdS w 5 A n (l.map lgCells)) {i:Nat} (hi:i<n) :
   ∃ b o x,A=some ⟨b,o,none⟩∧b<w.heap.size∧l[i]?=some x∧w.cell? ⟨b,o+i*5,none⟩=some (.int .i64 x.a)∧w.cell? ⟨b,o+i*5+1,none⟩=some (.int .i64 x.b)∧w.cell? ⟨b,o+i*5+2,none⟩=some (.int .i64 x.x) ∧
     w.cell? ⟨b,o+i*5+3,none⟩=some (.int .i64 x.y)∧w.cell? ⟨b,o+i*5+4,none⟩=some (.int .i64 x.h):=by
 obtain ⟨b,o,cs,hA,hb,hx,_,hc⟩:=h.row hi
 simp only [List.getElem?_map,Option.map_eq_some_iff] at hx
 obtain ⟨x,hx,rfl⟩:=hx
 exact ⟨b,o,x,hA,hb,hx,hc 0 _ rfl,hc 1 _ rfl,hc 2 _ rfl,hc 3 _ rfl,hc 4 _ rfl⟩
def LegOk (m:Nat) (z:Lg):Prop:=(0≤z.a∧z.a≤(m:Int)-1)∧(0≤z.b∧z.b≤(m:Int)-1)∧z.a≠z.b∧(-7000≤z.x∧z.x≤7000)∧(-7000≤z.y∧z.y≤7000)∧¬ (z.x=0∧z.y=0)∧(-500≤z.h∧z.h≤9000)
instance (m:Nat) (z:Lg):Decidable (LegOk m z):=by unfold LegOk;exact inferInstance
def chartB (m:Nat) (L:List Lg):Bool:=decide (1≤(m:Int)∧(m:Int)≤12) && (decide (L.length≤40) && L.all fun z=>decide (LegOk m z))
theorem chartB_iff {m:Nat} {L:List Lg}:chartB m L=true↔(1≤(m:Int)∧(m:Int)≤12)∧L.length≤40∧∀ z∈L,LegOk m z:=by
 unfold chartB
 simp only [Bool.and_eq_true,decide_eq_true_eq,List.all_eq_true]
theorem chartB_no {m:Nat} {L:List Lg} {j:Nat} {z:Lg} (hz:L[j]?=some z) (h:¬ LegOk m z):chartB m L=false:=by
 cases e:chartB m L with
 | false=>rfl
 | true=>exact absurd ((chartB_iff.1 e).2.2 z (List.mem_of_getElem? hz)) h
theorem take_okL {L:List Lg} {p:Lg→Prop} {j:Nat} {x:Lg} (h:∀ y∈L.take j,p y) (hx:L[j]?=some x) (hp:p x):∀ y∈L.take (j+1),p y:=by
 rw [List.take_add_one,hx]
 intro y hy
 rcases List.mem_append.1 hy with hy|hy
 · exact h y hy
 · have:y=x:=by simpa using hy
   rw [this];exact hp
theorem rfrom1_t {w0:World} {M:Ms} {H H':Hp} {w:World} {g:Nat} {x lo hi:Int} {tg:Tg} {cp:Nat} (hq:lo≤x∧x≤hi) (h:Has w0 M H w) (p:Pick H g [.int .i64 x] tg H') :
   Calls Tryz.prog 67 #[.int .i64 lo,.int .i64 hi,.slice (some ⟨g,0,none⟩) 1 cp] w fun e w'=>e=.returned (.bool true)∧Ext w w':=by
 have:=rfrom_calls lo hi (some ⟨g,0,none⟩) 1 cp [x] w (int_rows rfl h p) (by omega)
 rwa [show allFrom lo hi [x]=true by simp [allFrom];omega] at this
theorem rfrom1_f {w0:World} {M:Ms} {H H':Hp} {w:World} {g:Nat} {x lo hi:Int} {tg:Tg} {cp:Nat} (hq:¬ (lo≤x∧x≤hi)) (h:Has w0 M H w) (p:Pick H g [.int .i64 x] tg H') :
   Calls Tryz.prog 67 #[.int .i64 lo,.int .i64 hi,.slice (some ⟨g,0,none⟩) 1 cp] w fun e w'=>e=.returned (.bool false)∧Ext w w':=by
 have:=rfrom_calls lo hi (some ⟨g,0,none⟩) 1 cp [x] w (int_rows rfl h p) (by omega)
 rwa [show allFrom lo hi [x]=false by simp [allFrom];omega] at this
theorem rfrom2_t {w0:World} {M:Ms} {H H':Hp} {w:World} {g:Nat} {x y lo hi:Int} {tg:Tg} {cp:Nat} (hq:(lo≤x∧x≤hi)∧(lo≤y∧y≤hi)) (h:Has w0 M H w) (p:Pick H g [.int .i64 x,.int .i64 y] tg H') :
   Calls Tryz.prog 67 #[.int .i64 lo,.int .i64 hi,.slice (some ⟨g,0,none⟩) 2 cp] w fun e w'=>e=.returned (.bool true)∧Ext w w':=by
 have:=rfrom_calls lo hi (some ⟨g,0,none⟩) 2 cp [x,y] w (int_rows rfl h p) (by omega)
 rwa [show allFrom lo hi [x,y]=true by simp [allFrom];omega] at this
theorem rfrom2_f {w0:World} {M:Ms} {H H':Hp} {w:World} {g:Nat} {x y lo hi:Int} {tg:Tg} {cp:Nat} (hq:¬ ((lo≤x∧x≤hi)∧(lo≤y∧y≤hi))) (h:Has w0 M H w) (p:Pick H g [.int .i64 x,.int .i64 y] tg H') :
   Calls Tryz.prog 67 #[.int .i64 lo,.int .i64 hi,.slice (some ⟨g,0,none⟩) 2 cp] w fun e w'=>e=.returned (.bool false)∧Ext w w':=by
 have:=rfrom_calls lo hi (some ⟨g,0,none⟩) 2 cp [x,y] w (int_rows rfl h p) (by omega)
 rwa [show allFrom lo hi [x,y]=false by simp [allFrom];omega] at this
theorem checkChart_calls (AM A:Option Addr) (m cM n cp:Nat) (L:List Lg) (w:World) (hr:RdS w 5 A n (L.map lgCells)) (hn:n≤1000000) (hm:m≤1000000):Calls Tryz.prog 54 #[.agg #[.slice AM m cM,.slice A n cp]] w fun e w'=>e=.returned (.int .i64 (if chartB m L then 0 else 61))∧Ext w w':=by
 have hl:L.length=n:=by simpa using hr.len
 by_cases h1:1≤(m:Int)∧(m:Int)≤12
 rotate_left
 · have e:chartB m L=false:=by cases e:chartB m L with|false=>rfl|true=>exact absurd (chartB_iff.1 e).1 h1
   rw [e]
   refine enterQ (c:=cx w 69) Tryz.func54 rfl rfl rfl rfl ?_
   ((all_goals refine goH0e ?_);(all_goals constructor);(any_goals exact trivial);all_goals intros)
   all_goals rfl
 by_cases h2:n≤40
 rotate_left
 · have e:chartB m L=false:=by cases e:chartB m L with|false=>rfl|true=>exact absurd (chartB_iff.1 e).2.1 (by omega)
   rw [e]
   refine enterQ (c:=cx w 69) Tryz.func54 rfl rfl rfl rfl ?_
   ((all_goals refine goH0e ?_);(all_goals constructor);(any_goals exact trivial);all_goals intros)
   all_goals rfl
 refine enterQ (c:=cx w 69) Tryz.func54 rfl rfl rfl rfl ?_
 ((all_goals refine goH0e ?_);(all_goals constructor);(any_goals exact trivial);all_goals intros)
 apply t_loopK (ι:=Nat) [3,20,21] (fun j=>[(22,.int .i64 ((j:Nat):Int))]) (fun j=>[]) (fun j=>j≤n∧∀ z∈L.take j,LegOk m z) (fun j=>n-j) (0)
 (repeat (first|exact KeepF.nil|(apply KeepF.cons;exact rfl)|apply KeepF.skip))
 (repeat first|exact FrSub.nil|(apply FrSub.cons;exact rfl))
 (repeat (first|exact HpSub.refl _|(apply HpSub.consE;(repeat first|exact P0|apply P1);exact rfl)|exact HpSub.nil))
 · exact ⟨Nat.zero_le _,fun y hy=>by simp at hy⟩
 rintro j ⟨hj,hok⟩
 try simp only [List.cons_append,List.nil_append]
 by_cases hjn:j<n
 · obtain ⟨b,o,z,rfl,_,hz,c0,c1,c2,c3,c4⟩:=lg_read hr hjn
   by_cases k1:0≤z.a∧z.a≤(m:Int)-1
   rotate_left
   · have e:chartB m L=false:=chartB_no hz (fun e=>by unfold LegOk at e;omega)
     rw [e]
     ((all_goals refine goH0e ?_);(all_goals constructor);(any_goals exact trivial);all_goals intros)
     all_goals rfl
   by_cases k2:0≤z.b∧z.b≤(m:Int)-1
   rotate_left
   · have e:chartB m L=false:=chartB_no hz (fun e=>by unfold LegOk at e;omega)
     rw [e]
     ((all_goals refine goH0e ?_);(all_goals constructor);(any_goals exact trivial);all_goals intros)
     all_goals rfl
   by_cases k3:z.a≠z.b
   rotate_left
   · have e:chartB m L=false:=chartB_no hz (fun e=>by unfold LegOk at e;omega)
     rw [e]
     ((all_goals refine goH0e ?_);(all_goals constructor);(any_goals exact trivial);all_goals intros)
     all_goals rfl
   by_cases k4 : -7000≤z.x∧z.x≤7000
   rotate_left
   · have e:chartB m L=false:=chartB_no hz (fun e=>by unfold LegOk at e;omega)
     rw [e]
     ((all_goals refine goH0e ?_);(all_goals constructor);(any_goals exact trivial);all_goals intros)
     all_goals rfl
   by_cases k5 : -7000≤z.y∧z.y≤7000
   rotate_left
   · have e:chartB m L=false:=chartB_no hz (fun e=>by unfold LegOk at e;omega)
     rw [e]
     ((all_goals refine goH0e ?_);(all_goals constructor);(any_goals exact trivial);all_goals intros)
     all_goals rfl
   by_cases hz0:z.x=0
   · by_cases hz1:z.y=0
     · have e:chartB m L=false:=chartB_no hz (fun e=>by unfold LegOk at e;omega)
       rw [e]
       ((all_goals refine goH0e ?_);(all_goals constructor);(any_goals exact trivial);all_goals intros)
       all_goals rfl
     ·
       by_cases k6 : -500≤z.h∧z.h≤9000
       rotate_left
       · have e:chartB m L=false:=chartB_no hz (fun e=>by unfold LegOk at e;omega)
         rw [e]
         ((all_goals refine goH0e ?_);(all_goals constructor);(any_goals exact trivial);all_goals intros)
         all_goals rfl
       ((all_goals refine goH0e ?_);(all_goals constructor);(any_goals exact trivial);all_goals intros)
       all_goals (refine ⟨j+1,⟨by omega,take_okL hok hz ⟨k1,k2,k3,k4,k5,(by omega),k6⟩⟩,(by omega),?_,?_⟩<;>(try simp only [List.cons_append,List.nil_append])<;>(repeat' (first|exact FrSub.nil|(apply FrSub.cons;exact rfl)|(apply HpSub.consE;(repeat first|exact P0|apply P1);exact rfl)|exact HpSub.nil)))
   ·
     by_cases k6 : -500≤z.h∧z.h≤9000
     rotate_left
     · have e:chartB m L=false:=chartB_no hz (fun e=>by unfold LegOk at e;omega)
       rw [e]
       ((all_goals refine goH0e ?_);(all_goals constructor);(any_goals exact trivial);all_goals intros)
       all_goals rfl
     ((all_goals refine goH0e ?_);(all_goals constructor);(any_goals exact trivial);all_goals intros)
     all_goals (refine ⟨j+1,⟨by omega,take_okL hok hz ⟨k1,k2,k3,k4,k5,(by omega),k6⟩⟩,(by omega),?_,?_⟩<;>(try simp only [List.cons_append,List.nil_append])<;>(repeat' (first|exact FrSub.nil|(apply FrSub.cons;exact rfl)|(apply HpSub.consE;(repeat first|exact P0|apply P1);exact rfl)|exact HpSub.nil)))
 · obtain rfl:j=n:=by omega
   rw [List.take_of_length_le (by omega)] at hok
   have e:chartB m L=true:=chartB_iff.2 ⟨h1,by omega,hok⟩
   rw [e]
   ((all_goals refine goH0e ?_);(all_goals constructor);(any_goals exact trivial);all_goals intros)
   all_goals rfl
end Go.Proofs.YtcjkndjjbjoehaaGreat
