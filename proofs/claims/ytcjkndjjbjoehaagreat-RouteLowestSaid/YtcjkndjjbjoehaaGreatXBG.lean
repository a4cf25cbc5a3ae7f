/- A part of the proof: rules for walks, and contracts of functions (7). -/
import Derived.Test.YtcjkndjjbjoehaaGreatXBA
import Derived.Test.YtcjkndjjbjoehaaGreatXBF
import Derived.Test.YtcjkndjjbjoehaaGreatXBE
set_option linter.unusedVariables false
set_option linter.unusedSimpArgs false
set_option maxRecDepth 100000
set_option maxHeartbeats 2000000
namespace Go.Proofs.YtcjkndjjbjoehaaGreat
theorem goI0e {G A1 A2 A3 A4 A5 A6 A7 A8 A9 A10 A11 A12 A13 A14 A15 A16:Prop} (p:GoP A1 A2 A3 A4 A5 A6 A7 A8 A9 A10 A11 A12 A13 A14 A15 A16) (h:GoL A1→GoL A2→GoL A3→GoL A4→GoL A5→GoL A6→GoL A7→GoL A8→GoL A9→GoL A10→GoL A11→GoL A12→GoL A13→GoL A14→GoL A15→GoL A16→GoM→G:=by intro m1 m2 m3 m4 m5 m6 m7 m8 m9 m10 m11 m12 m13 m14 m15 m16 _;(repeat' (first|((with_reducible apply oq_id);first|((with_reducible apply oc_id);first|((with_reducible apply oq_call (hc:=Tryz.call67));exact rfl;exact rfl;(intro D w1 hw1;refine rfrom1_t ?_ hw1 (by (repeat first|exact P0|apply P1));omega))|((with_reducible apply oq_call (hc:=Tryz.call67));exact rfl;exact rfl;(intro D w1 hw1;refine rfrom1_f ?_ hw1 (by (repeat first|exact P0|apply P1));omega))|((with_reducible apply oq_call (hc:=Tryz.call67));exact rfl;exact rfl;(intro D w1 hw1;refine rfrom2_t ?_ hw1 (by (repeat first|exact P0|apply P1));omega))|((with_reducible apply oq_call (hc:=Tryz.call67));exact rfl;exact rfl;(intro D w1 hw1;refine rfrom2_f ?_ hw1 (by (repeat first|exact P0|apply P1));omega))|((with_reducible apply oq_call (hc:=Tryz.call71));exact rfl;exact rfl;(intro D w1 hw1;refine within6_t _ _ _ ?_ w1;omega))|((with_reducible apply oq_call (hc:=Tryz.call71));exact rfl;exact rfl;(intro D w1 hw1;refine within6_f _ _ _ ?_ w1;omega))|((with_reducible apply oq_call (hc:=Tryz.call88));exact rfl;exact rfl;exact fun D w1 hw1=>HX w1 hw1.ext.ext)|((with_reducible apply oq_call (hc:=Tryz.call137));exact rfl;exact rfl;exact fun D w1 hw1=>HX w1 hw1.ext.ext))|((with_reducible apply ob_id);first|((with_reducible apply oq_eqlT);exact rfl;exact rfl;omega)|((with_reducible apply oq_eqlF);exact rfl;exact rfl;omega)|((with_reducible apply oq_gtrT);exact rfl;exact rfl;omega)|((with_reducible apply oq_gtrF);exact rfl;exact rfl;omega)|((with_reducible apply oq_lssT);exact rfl;exact rfl;omega)|((with_reducible apply oq_lssF);exact rfl;exact rfl;omega)|((with_reducible apply oq_neqT);exact rfl;exact rfl;omega)|((with_reducible apply oq_neqF);exact rfl;exact rfl;omega))|(focus ((with_reducible apply oq_indexAddrN);(iterate 4 exact rfl);omega))|(apply oq_fn;exact rfl;first|exact trivial|(and_intros<;>omega)|omega|skip)|((with_reducible apply oq_load);exact rfl;exact rfl))|((with_reducible apply tl_id);first|(with_reducible apply tl_nil)|((with_reducible apply u_q);(iterate 4 exact rfl))|((with_reducible apply u_s);(iterate 3 exact rfl))|((with_reducible apply u_skip);(iterate 3 exact rfl)))|((with_reducible apply os_id);first|((with_reducible apply os_x);exact rfl))|((with_reducible apply ox_id);first|((with_reducible apply ox_boxAgg);exact rfl;intro _)|((with_reducible apply ox_buildSlice1);(iterate 6 exact rfl);intro _))|((with_reducible apply rd_id);first|(apply Rd.own;(repeat first|exact P0|apply P1);exact rfl;done)|(apply Rd.old;(first|(with_reducible assumption)|exact c0|exact c1|exact c2|exact c3|exact c4|exact c5|exact c6|exact c7|exact c8|exact d0|exact d1|exact d2|exact d3|exact d4|exact d5);first|exact List.not_mem_nil|exact m0|exact m1|exact m2|exact m3|exact m4|exact m5|exact m6|exact m7|exact m8|exact m9))|((with_reducible apply t_id);first|(with_reducible apply t_seq)|(apply t_region;kernel_rfl)|((with_reducible apply t_condT);exact rfl)|((with_reducible apply t_condF);exact rfl)|(with_reducible apply t_ret)|(with_reducible apply t_skip)|(with_reducible apply t_exit)|(with_reducible apply t_block))|with_reducible apply q_thenN|with_reducible apply q_thenR|with_reducible apply q_blockR|with_reducible apply q_blockN|with_reducible apply q_thenE|((with_reducible apply q_blockE);exact rfl)|(with_reducible apply end_ret)|exact rvs_nil|(with_reducible apply rvs_cons)|((with_reducible apply rv_tmp);exact rfl)));(try focus (repeat (rename_i x;first|exact goD x m1.p|revert x)));(try focus (repeat (rename_i x;first|exact goD x m2.p|revert x)));(try focus (repeat (rename_i x;first|exact goD x m3.p|revert x)));(try focus (repeat (rename_i x;first|exact goD x m4.p|revert x)));(try focus (repeat (rename_i x;first|exact goD x m5.p|revert x)));(try focus (repeat (rename_i x;first|exact goD x m6.p|revert x)));(try focus (repeat (rename_i x;first|exact goD x m7.p|revert x)));(try focus (repeat (rename_i x;first|exact goD x m8.p|revert x)));(try focus (repeat (rename_i x;first|exact goD x m9.p|revert x)));(try focus (repeat (rename_i x;first|exact goD x m10.p|revert x)));(try focus (repeat (rename_i x;first|exact goD x m11.p|revert x)));(try focus (repeat (rename_i x;first|exact goD x m12.p|revert x)));(try focus (repeat (rename_i x;first|exact goD x m13.p|revert x)));(try focus (repeat (rename_i x;first|exact goD x m14.p|revert x)));(try focus (repeat (rename_i x;first|exact goD x m15.p|revert x)));(try focus (repeat (rename_i x;first|exact goD x m16.p|revert x)))) (e:GoTs A1 A2 A3 A4 A5 A6 A7 A8 A9 A10 A11 A12 A13 A14 A15 A16:=by constructor<;>first|(with_reducible exact GoT.t)|exact GoT.u):G:=p.run h
theorem goI1e {G A1 A2 A3 A4 A5 A6 A7 A8 A9 A10 A11 A12 A13 A14 A15 A16:Prop} (p:GoP A1 A2 A3 A4 A5 A6 A7 A8 A9 A10 A11 A12 A13 A14 A15 A16) (h:GoL A1→GoL A2→GoL A3→GoL A4→GoL A5→GoL A6→GoL A7→GoL A8→GoL A9→GoL A10→GoL A11→GoL A12→GoL A13→GoL A14→GoL A15→GoL A16→GoM→G:=by intro m1 m2 m3 m4 m5 m6 m7 m8 m9 m10 m11 m12 m13 m14 m15 m16 _;(repeat' (first|((with_reducible apply oq_id);first|((with_reducible apply oq_call (hc:=Tryz.call118));exact rfl;exact rfl;exact fun D w1 hw1=>HR w1)|((with_reducible apply oq_call (hc:=Tryz.call126));exact rfl;exact rfl;exact fun D w1 hw1=>HR w1)|((with_reducible apply ob_id);first|(focus ((with_reducible apply (oq_mulE (k:=x*x)));(iterate 3 exact rfl);(refine ⟨?_,?_⟩<;>omega)))|(focus ((with_reducible apply (oq_mulE (k:=y*y)));(iterate 3 exact rfl);(refine ⟨?_,?_⟩<;>omega)))|(focus ((with_reducible apply (oq_addE (k:=x*x+y*y)));exact rfl;exact rfl;omega))|(focus ((with_reducible apply (oq_mulE (k:=10000*(x*x+y*y))));(iterate 3 exact rfl);(refine ⟨?_,?_⟩<;>omega))))|(apply oq_fn;exact rfl;first|exact trivial|(and_intros<;>omega)|omega|skip)|((with_reducible apply oq_load);exact rfl;exact rfl)|((with_reducible apply oq_build);(iterate 3 exact rfl)))|((with_reducible apply tl_id);first|(with_reducible apply tl_nil)|((with_reducible apply u_q);(iterate 4 exact rfl))|((with_reducible apply u_s0);exact rfl;exact rfl)|((with_reducible apply u_s);(iterate 3 exact rfl)))|((with_reducible apply os_id);first|((with_reducible apply os_x);exact rfl)|((with_reducible apply os_storeAgg);(iterate 5 exact rfl)))|((with_reducible apply ox_id);first|((with_reducible apply ox_alloc);exact rfl;intro _)|((with_reducible apply ox_boxAgg);exact rfl;intro _))|((with_reducible apply rd_id);first|(apply Rd.own;(repeat first|exact P0|apply P1);exact rfl;done))|((with_reducible apply t_id);first|(with_reducible apply t_seq)|(apply t_region;kernel_rfl)|(with_reducible apply t_ret))|with_reducible apply q_thenN|exact P0|((with_reducible apply Norm.nil);exact rfl)|((with_reducible apply Norm.cons);exact rfl)|(with_reducible apply end_ret)|exact rvs_nil|(with_reducible apply rvs_cons)|((with_reducible apply rv_tmp);exact rfl)|exact Nat.le_of_ble_eq_true rfl));(try focus (repeat (rename_i x;first|exact goD x m1.p|revert x)));(try focus (repeat (rename_i x;first|exact goD x m2.p|revert x)));(try focus (repeat (rename_i x;first|exact goD x m3.p|revert x)));(try focus (repeat (rename_i x;first|exact goD x m4.p|revert x)));(try focus (repeat (rename_i x;first|exact goD x m5.p|revert x)));(try focus (repeat (rename_i x;first|exact goD x m6.p|revert x)));(try focus (repeat (rename_i x;first|exact goD x m7.p|revert x)));(try focus (repeat (rename_i x;first|exact goD x m8.p|revert x)));(try focus (repeat (rename_i x;first|exact goD x m9.p|revert x)));(try focus (repeat (rename_i x;first|exact goD x m10.p|revert x)));(try focus (repeat (rename_i x;first|exact goD x m11.p|revert x)));(try focus (repeat (rename_i x;first|exact goD x m12.p|revert x)));(try focus (repeat (rename_i x;first|exact goD x m13.p|revert x)));(try focus (repeat (rename_i x;first|exact goD x m14.p|revert x)));(try focus (repeat (rename_i x;first|exact goD x m15.p|revert x)));(try focus (repeat (rename_i x;first|exact goD x m16.p|revert x)))) (e:GoTs A1 A2 A3 A4 A5 A6 A7 A8 A9 A10 A11 A12 A13 A14 A15 A16:=by constructor<;>first|(with_reducible exact GoT.t)|exact GoT.u):G:=p.run h
theorem goJ0e {G A1 A2 A3 A4 A5 A6 A7 A8 A9 A10 A11 A12 A13 A14 A15 A16:Prop} (p:GoP A1 A2 A3 A4 A5 A6 A7 A8 A9 A10 A11 A12 A13 A14 A15 A16) (h:GoL A1→GoL A2→GoL A3→GoL A4→GoL A5→GoL A6→GoL A7→GoL A8→GoL A9→GoL A10→GoL A11→GoL A12→GoL A13→GoL A14→GoL A15→GoL A16→GoM→G:=by intro m1 m2 m3 m4 m5 m6 m7 m8 m9 m10 m11 m12 m13 m14 m15 m16 _;(repeat' (first|((with_reducible apply oq_id);first|((with_reducible apply oc_id);first|((with_reducible apply oq_call (hc:=Tryz.call88));exact rfl;exact rfl;exact fun D w1 hw1=>HC w1 hw1.ext.ext)|((with_reducible apply oq_call (hc:=Tryz.call89));exact rfl;exact rfl;exact fun D w1 hw1=>HF w1)|((with_reducible apply oq_call (hc:=Tryz.call90));exact rfl;exact rfl;exact fun D w1 hw1=>srchGe hr hn p q r1 k1 h1 h2 w1 hw1 (by (repeat first|exact P0|apply P1)) (by (repeat first|exact P0|apply P1)))|((with_reducible apply oq_call (hc:=Tryz.call90));exact rfl;exact rfl;exact fun D w1 hw1=>srchGt hr hn p q r2 k2 h3 h4 w1 hw1 (by (repeat first|exact P0|apply P1)) (by (repeat first|exact P0|apply P1)))|((with_reducible apply oq_call (hc:=Tryz.call94));exact rfl;exact rfl;exact fun D w1 hw1=>layers_calls 95 true _ n c l p q w1 (hr.ext hw1.ext.ext) hW hpq Tryz.call95 (fun x w2=>eastG_calls _ _ _ _ w2))|((with_reducible apply oq_call (hc:=Tryz.call94));exact rfl;exact rfl;exact fun D w1 hw1=>layers_calls 96 false _ n c l p q w1 (hr.ext hw1.ext.ext) hW hpq Tryz.call96 (fun x w2=>northG_calls _ _ _ _ w2))|((with_reducible apply oq_call (hc:=Tryz.call93));exact rfl;exact rfl;exact fun D w1 hw1=>wide1 ⟨by omega,by omega⟩ ⟨by omega,by omega⟩ G hw1 (by (repeat first|exact P0|apply P1))))|((with_reducible apply oq_sliceLH (l:=a) (h:=m));(iterate 5 exact rfl);omega;omega;omega;omega;omega)|(focus ((with_reducible apply oq_indexAddrN);(iterate 4 exact rfl);omega))|(apply oq_fn;exact rfl;first|exact trivial|(and_intros<;>omega)|omega|skip)|((with_reducible apply oq_load);exact rfl;exact rfl)|((with_reducible apply oq_loadAgg);exact rfl;exact rfl)|((with_reducible apply oq_build);(iterate 3 exact rfl)))|((with_reducible apply tl_id);first|(with_reducible apply tl_nil)|((with_reducible apply u_q);(iterate 4 exact rfl))|((with_reducible apply u_s0);exact rfl;exact rfl)|((with_reducible apply u_s);(iterate 3 exact rfl)))|((with_reducible apply gx_id);first|(with_reducible apply v_nil)|((with_reducible apply v_q);(iterate 3 exact rfl)))|((with_reducible apply os_id);first|((with_reducible apply os_x);exact rfl)|((with_reducible apply os_store);(iterate 4 exact rfl))|((with_reducible apply os_storeAgg);(iterate 5 exact rfl)))|((with_reducible apply ox_id);first|((with_reducible apply ox_alloc);exact rfl;intro _)|((with_reducible apply ox_box);exact rfl;exact rfl;intro _)|((with_reducible apply ox_boxAgg);exact rfl;intro _))|((with_reducible apply ai_id);first|((with_reducible apply ai_q);(iterate 5 exact rfl))|((with_reducible apply ai_s0);(iterate 4 exact rfl)))|((with_reducible apply rd_id);first|(apply Rd.own;(repeat first|exact P0|apply P1);exact rfl;done)|(apply Rd.old;(first|(with_reducible assumption)|exact c0|exact c1|exact c2|exact c3|exact c4|exact c5);first|exact List.not_mem_nil))|((with_reducible apply t_id);first|(with_reducible apply t_seq)|(apply t_region;kernel_rfl)|((with_reducible apply t_condT);exact rfl)|((with_reducible apply t_condF);exact rfl)|((with_reducible apply t_condD);exact rfl;all_goals first|(intro _;try (exfalso;omega))|skip)|(with_reducible apply t_ret)|(with_reducible apply t_skip)|(with_reducible apply t_exit)|(with_reducible apply t_block))|with_reducible apply q_thenN|with_reducible apply q_thenR|with_reducible apply q_blockN|with_reducible apply q_thenE|((with_reducible apply q_blockE);exact rfl)|exact P0|(with_reducible apply P1)|exact Rdn.zero|apply Rdn.succ|((with_reducible apply Norm.nil);exact rfl)|((with_reducible apply Norm.cons);exact rfl)|(with_reducible apply end_ret)|exact rvs_nil|(with_reducible apply rvs_cons)|((with_reducible apply rv_tmp);exact rfl)|((with_reducible apply rv_cellAgg);exact rfl;exact rfl)|(apply t_mix (id:=16) [0,1,2,3,4,5,6,7,8,9,10] 2 #[false,false,false,false,false,false,false,false,false,false,false,true,false];kernel_rfl;kernel_rfl;exact rfl)|((with_reducible apply al_id);first|(apply al_done;decide +kernel)|(apply al_one 11;decide +kernel)|(apply al_one 12;decide +kernel))|exact Nat.le_of_ble_eq_true rfl));(try focus (repeat (rename_i x;first|exact goD x m1.p|revert x)));(try focus (repeat (rename_i x;first|exact goD x m2.p|revert x)));(try focus (repeat (rename_i x;first|exact goD x m3.p|revert x)));(try focus (repeat (rename_i x;first|exact goD x m4.p|revert x)));(try focus (repeat (rename_i x;first|exact goD x m5.p|revert x)));(try focus (repeat (rename_i x;first|exact goD x m6.p|revert x)));(try focus (repeat (rename_i x;first|exact goD x m7.p|revert x)));(try focus (repeat (rename_i x;first|exact goD x m8.p|revert x)));(try focus (repeat (rename_i x;first|exact goD x m9.p|revert x)));(try focus (repeat (rename_i x;first|exact goD x m10.p|revert x)));(try focus (repeat (rename_i x;first|exact goD x m11.p|revert x)));(try focus (repeat (rename_i x;first|exact goD x m12.p|revert x)));(try focus (repeat (rename_i x;first|exact goD x m13.p|revert x)));(try focus (repeat (rename_i x;first|exact goD x m14.p|revert x)));(try focus (repeat (rename_i x;first|exact goD x m15.p|revert x)));(try focus (repeat (rename_i x;first|exact goD x m16.p|revert x)))) (e:GoTs A1 A2 A3 A4 A5 A6 A7 A8 A9 A10 A11 A12 A13 A14 A15 A16:=by constructor<;>first|(with_reducible exact GoT.t)|exact GoT.u):G:=p.run h
open Go.RowKit
attribute [local irreducible] OQ OS OX Rd T TL GX GL AL AI RV wpG SAny Calls
def PaceOk (v q1 q2 q3 q4 g0 g1:Int):Prop:=(1≤v∧v≤1000)∧(-500≤q1∧q1≤9000)∧(-500≤q3∧q3≤9000)∧(0≤q2∧q2≤2000)∧(0≤q4∧q4≤1000000000)∧(0≤g0∧g0≤g1∧g1≤1000000)
instance (v q1 q2 q3 q4 g0 g1:Int):Decidable (PaceOk v q1 q2 q3 q4 g0 g1):=by unfold PaceOk;exact inferInstance
def paceB (v q1 q2 q3 q4 g0 g1:Int):Bool:=decide (PaceOk v q1 q2 q3 q4 g0 g1)
structure Wn where
 A:Option Addr
 n:Nat
 c:Nat
 l:List Gl
def wnCells (x:Wn):List Value:=[.slice x.A x.n x.c]
structure CastR (w:World) (A:Option Addr) (n:Nat) (L:List Wn):Prop where
 rows:RdS w 1 A n (L.map wnCells)
 each:∀ x∈L,RdS w 6 x.A x.n (x.l.map glCells)∧x.n≤x.c
theorem CastR.ext {w w':World} {A:Option Addr} {n:Nat} {L:List Wn} (h:CastR w A n L) (hx:Ext w w'):CastR w' A n L:=⟨h.rows.ext hx,fun x hm=>⟨(h.each x hm).1.ext hx,(h.each x hm).2⟩⟩
theorem CastR.len {w:World} {A:Option Addr} {n:Nat} {L:List Wn} (h:CastR w A n L):L.length=n:=by simpa using h.rows.len
theorem CastR.read {w:World} {A:Option Addr} {n:Nat} {l:List Wn} (h:CastR w A n l) {i:Nat} (hi:i<n) :
   ∃ b o x,A=some ⟨b,o,none⟩∧b<w.heap.size∧l[i]?=some x∧w.cell? ⟨b,o+i*1,none⟩=some (.slice x.A x.n x.c)∧RdS w 6 x.A x.n (x.l.map glCells)∧x.n≤x.c:=by
 obtain ⟨b,o,cs,hA,hb,hx,_,hc⟩:=h.rows.row hi
 simp only [List.getElem?_map,Option.map_eq_some_iff] at hx
 obtain ⟨x,hx,rfl⟩:=hx
 exact ⟨b,o,x,hA,hb,hx,hc 0 _ rfl,h.each x (List.mem_of_getElem? hx)⟩
def castE (L:List Wn):Int:=if 1≤(L.length:Int)∧(L.length:Int)≤4 then (if L.all fun x=>windB x.l then 0 else 22) else 4
theorem castE_no {L:List Wn} {j:Nat} {x:Wn} (h1:1≤(L.length:Int)∧(L.length:Int)≤4) (hx:L[j]?=some x) (h:windB x.l=false):castE L=22:=by
 unfold castE
 rw [if_pos h1,if_neg]
 intro e
 have:=List.all_eq_true.1 e x (List.mem_of_getElem? hx)
 rw [h] at this;cases this
theorem castE_zero {L:List Wn}:castE L=0↔(1≤(L.length:Int)∧(L.length:Int)≤4)∧∀ x∈L,windB x.l=true:=by
 unfold castE
 by_cases h1:1≤(L.length:Int)∧(L.length:Int)≤4
 · rw [if_pos h1]
   by_cases h2:(L.all fun x=>windB x.l)=true
   · rw [if_pos h2];exact ⟨fun _=>⟨h1,fun x hx=>List.all_eq_true.1 h2 x hx⟩,fun _=>rfl⟩
   · rw [if_neg h2];exact ⟨fun e=>(by cases e),fun e=>absurd (List.all_eq_true.2 e.2) h2⟩
 · rw [if_neg h1];exact ⟨fun e=>(by cases e),fun e=>absurd e.1 h1⟩
theorem take_okW {L:List Wn} {p:Wn→Prop} {j:Nat} {x:Wn} (h:∀ y∈L.take j,p y) (hx:L[j]?=some x) (hp:p x):∀ y∈L.take (j+1),p y:=by
 rw [List.take_add_one,hx]
 intro y hy
 rcases List.mem_append.1 hy with hy|hy
 · exact h y hy
 · have:y=x:=by simpa using hy
   rw [this];exact hp
noncomputable def lenV (x y:Int):Int:=(rootV (10000*(x*x+y*y)) (10000*(x*x+y*y))).2.1
def Small (m n:Nat) (L:List Wn):Prop:=m≤20∧n≤50∧L.length≤8∧∀ x∈L,x.n≤24
instance (m n:Nat) (L:List Wn):Decidable (Small m n L):=by unfold Small;exact inferInstance
theorem checkPace_calls (v q1 q2 q3 q4 g0 g1:Int) (w:World):Calls Tryz.prog 55 #[.agg #[.int .i64 v,.int .i64 q1,.int .i64 q2,.int .i64 q3,.int .i64 q4,.int .i64 g0,.int .i64 g1]] w fun e w'=>e=.returned (.int .i64 (if paceB v q1 q2 q3 q4 g0 g1 then 0 else 62))∧Ext w w':=by
 by_cases a1:1≤v∧v≤1000
 rotate_left
 · have e:paceB v q1 q2 q3 q4 g0 g1=false:=decide_eq_false (fun e=>by unfold PaceOk at e;omega)
   rw [e]
   refine enterQ (c:=cx w 50) Tryz.func55 rfl rfl rfl rfl ?_
   ((all_goals refine goI0e ?_);(all_goals constructor);(any_goals exact trivial);all_goals intros)
   all_goals rfl
 by_cases a2 : -500≤q1∧q1≤9000
 rotate_left
 · have e:paceB v q1 q2 q3 q4 g0 g1=false:=decide_eq_false (fun e=>by unfold PaceOk at e;omega)
   rw [e]
   refine enterQ (c:=cx w 50) Tryz.func55 rfl rfl rfl rfl ?_
   ((all_goals refine goI0e ?_);(all_goals constructor);(any_goals exact trivial);all_goals intros)
   all_goals rfl
 by_cases a3 : -500≤q3∧q3≤9000
 rotate_left
 · have e:paceB v q1 q2 q3 q4 g0 g1=false:=decide_eq_false (fun e=>by unfold PaceOk at e;omega)
   rw [e]
   refine enterQ (c:=cx w 50) Tryz.func55 rfl rfl rfl rfl ?_
   ((all_goals refine goI0e ?_);(all_goals constructor);(any_goals exact trivial);all_goals intros)
   all_goals rfl
 by_cases a4:0≤q2∧q2≤2000
 rotate_left
 · have e:paceB v q1 q2 q3 q4 g0 g1=false:=decide_eq_false (fun e=>by unfold PaceOk at e;omega)
   rw [e]
   refine enterQ (c:=cx w 50) Tryz.func55 rfl rfl rfl rfl ?_
   ((all_goals refine goI0e ?_);(all_goals constructor);(any_goals exact trivial);all_goals intros)
   all_goals rfl
 by_cases a5:0≤q4∧q4≤1000000000
 rotate_left
 · have e:paceB v q1 q2 q3 q4 g0 g1=false:=decide_eq_false (fun e=>by unfold PaceOk at e;omega)
   rw [e]
   refine enterQ (c:=cx w 50) Tryz.func55 rfl rfl rfl rfl ?_
   ((all_goals refine goI0e ?_);(all_goals constructor);(any_goals exact trivial);all_goals intros)
   all_goals rfl
 by_cases a6:(0≤g0∧g0≤1000000)∧(0≤g1∧g1≤1000000)
 rotate_left
 · have e:paceB v q1 q2 q3 q4 g0 g1=false:=decide_eq_false (fun e=>by unfold PaceOk at e;omega)
   rw [e]
   refine enterQ (c:=cx w 50) Tryz.func55 rfl rfl rfl rfl ?_
   ((all_goals refine goI0e ?_);(all_goals constructor);(any_goals exact trivial);all_goals intros)
   all_goals rfl
 by_cases a7:g0≤g1
 rotate_left
 · have e:paceB v q1 q2 q3 q4 g0 g1=false:=decide_eq_false (fun e=>by unfold PaceOk at e;omega)
   rw [e]
   refine enterQ (c:=cx w 50) Tryz.func55 rfl rfl rfl rfl ?_
   ((all_goals refine goI0e ?_);(all_goals constructor);(any_goals exact trivial);all_goals intros)
   all_goals rfl
 have e:paceB v q1 q2 q3 q4 g0 g1=true:=decide_eq_true (by unfold PaceOk;omega)
 rw [e]
 refine enterQ (c:=cx w 50) Tryz.func55 rfl rfl rfl rfl ?_
 ((all_goals refine goI0e ?_);(all_goals constructor);(any_goals exact trivial);all_goals intros)
 all_goals rfl
theorem checkCast_calls (A:Option Addr) (n cp:Nat) (L:List Wn) (w:World) (hr:CastR w A n L) (hs:∀ x∈L,x.n≤1000000):Calls Tryz.prog 56 #[.slice A n cp] w fun e w'=>e=.returned (.int .i64 (castE L))∧Ext w w':=by
 have hl:=hr.len
 by_cases h1:1≤(n:Int)∧(n:Int)≤4
 rotate_left
 · have e:castE L=4:=by unfold castE;rw [if_neg (by omega)]
   rw [e]
   refine enterQ (c:=cx w 23) Tryz.func56 rfl rfl rfl rfl ?_
   ((all_goals refine goI0e ?_);(all_goals constructor);(any_goals exact trivial);all_goals intros)
   all_goals rfl
 refine enterQ (c:=cx w 23) Tryz.func56 rfl rfl rfl rfl ?_
 ((all_goals refine goI0e ?_);(all_goals constructor);(any_goals exact trivial);all_goals intros)
 apply t_loopK (ι:=Nat) [11,12] (fun j=>[(13,.int .i64 ((j:Nat):Int))]) (fun j=>[]) (fun j=>j≤n∧∀ x∈L.take j,windB x.l=true) (fun j=>n-j) (0)
 (repeat (first|exact KeepF.nil|(apply KeepF.cons;exact rfl)|apply KeepF.skip))
 (repeat first|exact FrSub.nil|(apply FrSub.cons;exact rfl))
 (repeat (first|exact HpSub.refl _|(apply HpSub.consE;(repeat first|exact P0|apply P1);exact rfl)|exact HpSub.nil))
 · exact ⟨Nat.zero_le _,fun y hy=>by simp at hy⟩
 rintro j ⟨hj,hok⟩
 try simp only [List.cons_append,List.nil_append]
 by_cases hjn:j<n
 · obtain ⟨b,o,x,rfl,_,hx,c0,hrx,hcx⟩:=hr.read hjn
   have HX:=fun w1 (e:Ext w w1)=>checkWinds_calls x.A x.n x.c x.l w1 (hrx.ext e) (hs x (List.mem_of_getElem? hx))
   cases hw:windB x.l with
   | false=>
     have e:castE L=22:=castE_no (by omega) hx hw
     rw [e]
     rw [hw] at HX
     ((all_goals refine goI0e ?_);(all_goals constructor);(any_goals exact trivial);all_goals intros)
     all_goals rfl
   | true=>
     rw [hw] at HX
     ((all_goals refine goI0e ?_);(all_goals constructor);(any_goals exact trivial);all_goals intros)
     all_goals (refine ⟨j+1,⟨by omega,take_okW hok hx hw⟩,(by omega),?_,?_⟩<;>(try simp only [List.cons_append,List.nil_append])<;>(repeat' (first|exact FrSub.nil|(apply FrSub.cons;exact rfl)|exact HpSub.refl _)))
 · obtain rfl:j=n:=by omega
   rw [List.take_of_length_le (by omega)] at hok
   have e:castE L=0:=castE_zero.2 ⟨by omega,hok⟩
   rw [e]
   ((all_goals refine goI0e ?_);(all_goals constructor);(any_goals exact trivial);all_goals intros)
   all_goals rfl
theorem length_calls (a b x y h:Int) (hx : -7000≤x∧x≤7000) (hy : -7000≤y∧y≤7000) (w:World):Calls Tryz.prog 86 #[.agg #[.int .i64 a,.int .i64 b,.int .i64 x,.int .i64 y,.int .i64 h]] w fun e w'=>e=.returned (.int .i64 (lenV x y))∧Ext w w':=by
 have b1:=mul_abs (x:=x) (y:=x) (a:=7000) (b:=7000) (by omega) (by omega)
 have b2:=mul_abs (x:=y) (y:=y) (a:=7000) (b:=7000) (by omega) (by omega)
 have HR:=fun w1=>boundRoot_calls (10000*(x*x+y*y)) (10000*(x*x+y*y)) w1
 unfold lenV
 refine enterQ (c:=cx w 27) Tryz.func86 rfl rfl rfl rfl ?_
 ((all_goals refine goI1e ?_);(all_goals constructor);(any_goals exact trivial);all_goals intros)
 all_goals rfl
theorem great_calls (AM AL:Option Addr) (m cM nL cL:Nat) (A:Option Addr) (n cp:Nat) (L:List Wn) (w:World) (hr:CastR w A n L):Calls Tryz.prog 15 #[.agg #[.slice AM m cM,.slice AL nL cL],.slice A n cp] w fun e w'=>e=.returned (.bool (!decide (Small m nL L)))∧Ext w w':=by
 have hl:=hr.len
 by_cases h1:20<m
 · rw [decide_eq_false (fun h:Small m nL L=>by have:=h.1;omega)]
   refine enterQ (c:=cx w 33) Tryz.func15 rfl rfl rfl rfl ?_
   ((all_goals refine goI0e ?_);(all_goals constructor);(any_goals exact trivial);all_goals intros)
   all_goals rfl
 by_cases h2:50<nL
 · rw [decide_eq_false (fun h:Small m nL L=>by have:=h.2.1;omega)]
   refine enterQ (c:=cx w 33) Tryz.func15 rfl rfl rfl rfl ?_
   ((all_goals refine goI0e ?_);(all_goals constructor);(any_goals exact trivial);all_goals intros)
   all_goals rfl
 by_cases h3:8<n
 · rw [decide_eq_false (fun h:Small m nL L=>by have:=h.2.2.1;omega)]
   refine enterQ (c:=cx w 33) Tryz.func15 rfl rfl rfl rfl ?_
   ((all_goals refine goI0e ?_);(all_goals constructor);(any_goals exact trivial);all_goals intros)
   all_goals rfl
 refine enterQ (c:=cx w 33) Tryz.func15 rfl rfl rfl rfl ?_
 ((all_goals refine goI0e ?_);(all_goals constructor);(any_goals exact trivial);all_goals intros)
 apply t_loopK (ι:=Nat) [1] (fun j=>[(5,.int .i64 ((j:Nat):Int))]) (fun j=>[]) (fun j=>j≤n∧∀ x∈L.take j,x.n≤24) (fun j=>n-j) (0)
 (repeat (first|exact KeepF.nil|(apply KeepF.cons;exact rfl)|apply KeepF.skip))
 (repeat first|exact FrSub.nil|(apply FrSub.cons;exact rfl))
 (repeat (first|exact HpSub.refl _|(apply HpSub.consE;(repeat first|exact P0|apply P1);exact rfl)|exact HpSub.nil))
 · exact ⟨Nat.zero_le _,fun y hy=>by simp at hy⟩
 rintro j ⟨hj,hok⟩
 try simp only [List.cons_append,List.nil_append]
 by_cases hjn:j<n
 · obtain ⟨b,o,x,rfl,_,hx,c0,hrx,hcx⟩:=hr.read hjn
   by_cases hb:24<x.n
   · rw [decide_eq_false (fun h:Small m nL L=>by have:=h.2.2.2 x (List.mem_of_getElem? hx);omega)]
     ((all_goals refine goI0e ?_);(all_goals constructor);(any_goals exact trivial);all_goals intros)
     all_goals rfl
   · ((all_goals refine goI0e ?_);(all_goals constructor);(any_goals exact trivial);all_goals intros)
     all_goals (refine ⟨j+1,⟨by omega,take_okW hok hx (by omega)⟩,(by omega),?_,?_⟩<;>(try simp only [List.cons_append,List.nil_append])<;>(repeat' (first|exact FrSub.nil|(apply FrSub.cons;exact rfl)|exact HpSub.refl _)))
 · obtain rfl:j=n:=by omega
   rw [List.take_of_length_le (by omega)] at hok
   rw [decide_eq_true (show Small m nL L from ⟨by omega,by omega,by omega,hok⟩)]
   ((all_goals refine goI0e ?_);(all_goals constructor);(any_goals exact trivial);all_goals intros)
   all_goals rfl
end Go.Proofs.YtcjkndjjbjoehaaGreat
namespace Go.Proofs.YtcjkndjjbjoehaaGreat
theorem sq_lt {j k:Int} (h0:0≤j) (h:j<k):j*j<k*k:=by
 have:=sq_mono h0 (show j≤k-1 by omega)
 have e:(k-1)*(k-1)=k*k-2*k+1:=by simp only [Int.sub_mul,Int.mul_sub,Int.mul_one,Int.one_mul];omega
 omega
theorem sh_pair {n m q s t:Int} (hq:1≤q) (hs:IsSh n q s) (ht:IsSh (-m) q t) (h:n≤m):s+t≤0:=by
 rcases Int.lt_or_le 0 (s+t) with g|g
 · exfalso
   have h1:=hs.1
   have h2:=ht.1
   unfold ShP at h1 h2
   rw [← sq_neg m] at h2
   rcases Int.lt_or_le 0 s with g1|g1
   · have a:0≤n∧s*s*q≤n*n:=by
       rcases h1 with ⟨x,y|y⟩|⟨x,y,_⟩
       · omega
       · exact ⟨x,y⟩
       · omega
     have sp:=Int.mul_pos g1 g1
     have sq:=Int.mul_pos sp (show 0<q by omega)
     have n0:0<n:=by
       rcases Int.lt_or_eq_of_le a.1 with x|x
       · exact x
       · rw [← x] at a;omega
     have b:t<0∧m*m≤t*t*q:=by
       rcases h2 with ⟨x,_⟩|⟨x,y,z⟩
       · omega
       · exact ⟨y,z⟩
     have c:=sq_lt (j:=-t) (k:=s) (by omega) (by omega)
     rw [← sq_neg t] at c
     have d:=Int.mul_lt_mul_of_pos_right c (show 0<q by omega)
     have e:=sq_mono a.1 h
     omega
   · have b:0≤-m∧t*t*q≤m*m:=by
       rcases h2 with ⟨x,y|y⟩|⟨x,y,_⟩
       · omega
       · exact ⟨x,y⟩
       · omega
     have sp:=Int.mul_pos (show 0<t by omega) (show 0<t by omega)
     have sq:=Int.mul_pos sp (show 0<q by omega)
     have m0:m<0:=by
       rcases Int.lt_or_eq_of_le b.1 with x|x
       · omega
       · have:m=0:=by omega
         rw [this] at b;omega
     have a:s<0∧n*n≤s*s*q:=by
       rcases h1 with ⟨x,_⟩|⟨x,y,z⟩
       · omega
       · exact ⟨y,z⟩
     have c:=sq_lt (j:=-s) (k:=t) (by omega) (by omega)
     rw [← sq_neg s] at c
     have d:=Int.mul_lt_mul_of_pos_right c (show 0<q by omega)
     have e:=sq_mono (show 0≤-m by omega) (show -m≤-n by omega)
     rw [← sq_neg m,← sq_neg n] at e
     omega
 · exact g
def WayIn (x y:Int):Prop:=(-7000≤x∧x≤7000)∧(-7000≤y∧y≤7000)∧¬ (x=0∧y=0)
theorem WayIn.neg {x y:Int} (h:WayIn x y):WayIn (-x) (-y):=by unfold WayIn at *;omega
theorem WayIn.turn {x y:Int} (h:WayIn x y):WayIn (-y) x:=by unfold WayIn at *;omega
theorem WayIn.q {p q:Int} (h:WayIn p q):1≤p*p+q*q:=by
 have c:=sq_nn p
 have d:=sq_nn q
 rcases Int.lt_or_le (p*p+q*q) 1 with g|g
 · have e1:p*p=0:=by omega
   have e2:q*q=0:=by omega
   exact absurd ⟨(Int.mul_eq_zero.1 e1).elim id id,(Int.mul_eq_zero.1 e2).elim id id⟩ h.2.2
 · exact g
theorem along_way {a b c d x y:Int} (h:WOk a b c d) (hw:WayIn x y):∃ lo hi,alongV a b c d x y=(lo,hi,0)∧lo≤hi∧-4000≤lo∧hi≤4000:=by
 have hq:=hw.q
 have hy:wayOk x y=true:=by
   unfold wayOk
   rw [Bool.and_eq_true,allFrom_two]
   unfold WayIn at hw
   refine ⟨by omega,?_⟩
   simp
   omega
 have f1:farV a b≤2000∧0≤farV a b:=by obtain ⟨h1,h2,h3,h4,h5,h6⟩:=h;unfold farV;omega
 have f2:farV c d≤2000∧0≤farV c d:=by obtain ⟨h1,h2,h3,h4,h5,h6⟩:=h;unfold farV;omega
 have g1:=Int.mul_le_mul f1.1 f1.1 f1.2 (by omega)
 have g2:=Int.mul_le_mul f2.1 f2.1 f2.2 (by omega)
 have h8:∀ n,(n=alongLo a b c d x y∨n=alongHi a b c d x y)→n*n≤8000000*(x*x+y*y):=fun n hn=>
   Int.le_trans (ends_sq h.ab h.cd hn) (Int.mul_le_mul_of_nonneg_right (by omega) (by omega))
 have k1:=h8 _ (.inl rfl)
 have k2:=h8 _ (.inr rfl)
 rw [sq_neg (alongHi a b c d x y)] at k2
 have s1:=shV_ex hq k1
 have s2:=shV_ex hq k2
 have hle:alongLo a b c d x y≤alongHi a b c d x y:=by unfold alongLo alongHi;omega
 have sp:=sh_pair hq s1.1 s2.1 hle
 unfold alongV
 rw [if_pos h.windE,if_pos hy]
 exact ⟨_,_,rfl,by omega,by omega,by omega⟩
def nearR (cl ch:Int):Int:=max (max 0 cl) (-ch)
def farR (cl ch:Int):Int:=max (-cl) ch
noncomputable def rtHi (b:Int):Int:=if rt b*rt b=b then rt b else rt b+1
theorem rt_le {a b:Int} (h0:0≤a) (h:a≤b):rt a≤rt b:=by
 obtain ⟨r1,r2,r3⟩:=rt_spec a h0
 obtain ⟨s1,s2,s3⟩:=rt_spec b (by omega)
 rcases Int.lt_or_le (rt b) (rt a) with g|g
 · have:=sq_mono (show 0≤rt b+1 by omega) (show rt b+1≤rt a by omega)
   omega
 · exact g
theorem rtHi_ge (b:Int):rt b≤rtHi b:=by unfold rtHi;split<;>omega
theorem rt_bound {a:Int} (h0:0≤a) (h:a≤1000000):0≤rt a∧rt a≤1000∧rtHi a≤1001:=by
 obtain ⟨r1,r2,r3⟩:=rt_spec a h0
 have:=sq_bound (s:=rt a) (m:=1000) r1 (by omega) (by omega)
 unfold rtHi
 split<;>omega
theorem rootV_eq {a b:Int} (h0:0≤a) (hab:a≤b) (h:b≤1000000):rootV a b=(rt a,rtHi b,0):=by
 unfold rootV
 have f1:fineS (a,b)=true:=(fineS_iff _).2 ⟨hab,by show _≤a;omega,by show b≤_;omega⟩
 rw [if_pos f1,if_neg (by omega)];rfl
noncomputable def rate (v al ah cl ch:Int):Option (Int×Int):=
 if v<farR cl ch then none else if al+rt (v*v-farR cl ch*farR cl ch)<1 then none else some (al+rt (v*v-farR cl ch*farR cl ch),ah+rtHi (v*v-nearR cl ch*nearR cl ch))
noncomputable def spd (v al ah cl ch:Int):Int×Int:=
 if v<farR cl ch then (0,0) else (max (al+rt (v*v-farR cl ch*farR cl ch)) 0,ah+rtHi (v*v-nearR cl ch*nearR cl ch))
structure Fast (v al ah cl ch:Int):Prop where
 v1:1≤v
 v2:v≤1000
 a1:al≤ah
 a2 : -4000≤al
 a3:ah≤4000
 c1:cl≤ch
 c2 : -4000≤cl
 c3:ch≤4000
theorem Fast.sqs {v al ah cl ch:Int} (h:Fast v al ah cl ch) (hv:¬ v<farR cl ch):0≤v*v-farR cl ch*farR cl ch∧v*v-farR cl ch*farR cl ch≤v*v-nearR cl ch*nearR cl ch∧v*v-nearR cl ch*nearR cl ch≤1000000∧v*v≤1000000∧0≤farR cl ch*farR cl ch∧0≤nearR cl ch*nearR cl ch:=by
 have hc:=h.c1
 have v1:=h.v1
 have v2:=h.v2
 have n0:0≤nearR cl ch∧nearR cl ch≤farR cl ch:=by unfold nearR farR;omega
 have e1:=sq_mono n0.1 n0.2
 have e2:=sq_mono (show 0≤farR cl ch by omega) (show farR cl ch≤v by omega)
 have e3:=sq_mono (show 0≤v by omega) v2
 have e4:=sq_nn (farR cl ch)
 have e5:=sq_nn (nearR cl ch)
 omega
theorem rate_spd {v al ah cl ch:Int} (h:Fast v al ah cl ch):(rate v al ah cl ch=none∧(spd v al ah cl ch).1=0)∨∃ s f,rate v al ah cl ch=some (s,f)∧spd v al ah cl ch=(s,f)∧1≤s∧s≤f∧f≤5001:=by
 unfold rate spd
 by_cases hv:v<farR cl ch
 · rw [if_pos hv,if_pos hv];exact .inl ⟨rfl,rfl⟩
 · rw [if_neg hv,if_neg hv]
   obtain ⟨q1,q2,q3,_,_,_⟩:=h.sqs hv
   have a1:=h.a1
   have a3:=h.a3
   have b1:=rt_le q1 q2
   have b2:=rtHi_ge (v*v-nearR cl ch*nearR cl ch)
   have b3:=rt_bound (a:=v*v-nearR cl ch*nearR cl ch) (by omega) q3
   split
   · exact .inl ⟨rfl,by simp only;omega⟩
   · refine .inr ⟨_,_,rfl,?_,by omega,by omega,by omega⟩
     rw [Int.max_eq_left (by omega)]
noncomputable def wrate (v up x y:Int) (z:Wn):Option (Int×Int):=
 let W:=windV z.l up up
 let A:=alongV W.1.1 W.1.2 W.2.1.1 W.2.1.2 x y
 let C:=alongV W.1.1 W.1.2 W.2.1.1 W.2.1.2 (-y) x
 rate v A.1 A.2.1 C.1 C.2.1
noncomputable def wspd (v up x y:Int) (z:Wn):Int×Int:=
 let W:=windV z.l up up
 let A:=alongV W.1.1 W.1.2 W.2.1.1 W.2.1.2 x y
 let C:=alongV W.1.1 W.1.2 W.2.1.1 W.2.1.2 (-y) x
 spd v A.1 A.2.1 C.1 C.2.1
theorem wn_all {v up x y:Int} {z:Wn} (hz:windB z.l=true) (hv:1≤v∧v≤1000) (hu : -500≤up∧up≤20000) (hw:WayIn x y):∃ a b c d al ah cl ch,windV z.l up up=((a,b),(c,d),0)∧alongV a b c d x y=(al,ah,0)∧alongV a b c d (-y) x=(cl,ch,0)∧Fast v al ah cl ch∧wrate v up x y z=rate v al ah cl ch∧wspd v up x y z=spd v al ah cl ch:=by
 have hf:fineS (up,up)=true:=(fineS_iff _).2 ⟨Int.le_refl _,by show _≤up;omega,by show up≤_;omega⟩
 obtain ⟨a,b,c,d,e,h1,h2,h3,h4,h5,h6⟩:=windV_ok hz hf
 have ok:WOk a b c d:=⟨h1,h2,h3,h4,h5,h6⟩
 obtain ⟨al,ah,e1,l1,l2,l3⟩:=along_way ok hw
 obtain ⟨cl,ch,e2,m1,m2,m3⟩:=along_way ok hw.turn
 refine ⟨a,b,c,d,al,ah,cl,ch,e,e1,e2,⟨hv.1,hv.2,l1,l2,l3,m1,m2,m3⟩,?_,?_⟩
 · unfold wrate;rw [e];simp only;rw [e1,e2]
 · unfold wspd;rw [e];simp only;rw [e1,e2]
theorem wn_both {v up x y:Int} {z:Wn} (hz:windB z.l=true) (hv:1≤v∧v≤1000) (hu : -500≤up∧up≤20000) (hw:WayIn x y):(wrate v up x y z=none∧(wspd v up x y z).1=0)∨∃ s f,wrate v up x y z=some (s,f)∧wspd v up x y z=(s,f)∧1≤s∧s≤f∧f≤5001:=by
 obtain ⟨a,b,c,d,al,ah,cl,ch,_,_,_,hF,e1,e2⟩:=wn_all hz hv hu hw
 rw [e1,e2]
 exact rate_spd hF
noncomputable def ratesV (v up x y:Int) (L:List Wn):List (Int×Int):=if L.all fun z=>(wrate v up x y z).isSome then L.filterMap (wrate v up x y) else []
end Go.Proofs.YtcjkndjjbjoehaaGreat
namespace Go.Proofs.YtcjkndjjbjoehaaGreat
open Go.RowKit
attribute [local irreducible] OQ OS OX Rd T TL GX GL AL AI RV wpG SAny Calls
theorem windAt_calls (A:Option Addr) (n c:Nat) (l:List Gl) (p q:Int) (w:World) (hr:RdS w 6 A n (l.map glCells)) (hn:n≤1000000) (hcap:n≤c) :
   Calls Tryz.prog 39 #[.slice A n c,.agg #[.int .i64 p,.int .i64 q]] w fun e w'=>e=.returned (windO (windV l p q))∧Ext w w':=by
 have hl:=hr.len
 simp only [List.length_map] at hl
 have HC:=fun w1 (hx:Ext w w1)=>checkWinds_calls A n c l w1 (hr.ext hx) hn
 have HF:=fun w1=>check_calls p q w1
 unfold windV
 cases hwb:windB l with
 | false=>
   rw [hwb] at HC
   simp only [Bool.false_eq_true,if_false] at HC ⊢
   refine enterQ (c:=cx w 66) Tryz.func39 rfl rfl rfl rfl ?_
   ((all_goals refine goJ0e ?_);(all_goals constructor);(any_goals exact trivial);all_goals intros)
   all_goals rfl
 | true=>
 rw [hwb] at HC
 have hW:=(windB_iff l).1 hwb
 cases hfn:fineS (p,q) with
 | false=>
   rw [hfn] at HF
   simp only [Bool.false_eq_true,if_false,if_true] at HF HC ⊢
   refine enterQ (c:=cx w 66) Tryz.func39 rfl rfl rfl rfl ?_
   ((all_goals refine goJ0e ?_);(all_goals constructor);(any_goals exact trivial);all_goals intros)
   all_goals rfl
 | true=>
 rw [hfn] at HF
 simp only [if_true] at HF HC ⊢
 have hpq:p≤q:=((fineS_iff (p,q)).1 hfn).1
 have n1:=hW.n1
 have n16:=hW.n16
 obtain ⟨a1,a2,a3,a4⟩:=steady_big (e:=true) (p:=p) (q:=q) hW
 obtain ⟨b1,b2,b3,b4⟩:=steady_big (e:=false) (p:=p) (q:=q) hW
 have G:=gustR_bounds (p:=p) (q:=q) (fun x hx=>by have:=hW.ok x hx;omega) l.length
 obtain ⟨r1,k1,h1,h2⟩:=wnd_split hW (fun h=>decide (p≤h)) (fun a b hab h=>by simp at h ⊢;omega)
 obtain ⟨r2,k2,h3,h4⟩:=wnd_split hW (fun h=>decide (q<h)) (fun a b hab h=>by simp at h ⊢;omega)
 simp only [decide_eq_false_iff_not,decide_eq_true_eq,Int.not_le,Int.not_lt] at h1 h2 h3 h4
 have hr12:r1≤r2:=by
   rcases Nat.lt_or_ge r2 r1 with k|k
   · have hx:l[r2]?=some l[r2]:=List.getElem?_eq_getElem (by omega)
     have:=h1 _ _ k hx
     have:=h4 _ _ (Nat.le_refl _) hx
     omega
   · exact k
 have hcn:=fun i hi=>cntG_iff (i:=i) hW h1 h2 h3 h4 k1 hi
 rw [hl] at k1 k2
 obtain ⟨a,ha⟩:∃ a,a=r1-1:=⟨_,rfl⟩
 obtain ⟨m,hm⟩:∃ m,m=min (r2+1) n:=⟨_,rfl⟩
 have hz:gustR l p q (a+0)=0:=gustR_from (a:=a) _ (Nat.le_refl _) fun i hi=>by rw [hcn i (by omega)];simp;omega
 have he:gustR l p q (a+(m-a))=gustV l p q:=by
   rw [show a+(m-a)=m by omega]
   exact (gustR_to l.length (by omega) fun i hi hi2=>by rw [hcn i (by omega)];simp;omega).symm
 obtain ⟨b,o,x0,rfl,_,_,_⟩:=gl_read hr (show 0<n by omega)
 refine enterQ (c:=cx w 66) Tryz.func39 rfl rfl rfl rfl ?_
 ((all_goals refine goJ0e ?_);(all_goals constructor);(any_goals exact trivial);all_goals intros)
 rename_i b10
 apply t_loopK (ι:=Nat) [2,3,4,5,10,13,43,44,54,55,56,57,58,59,60,61,62,63,64,65] (fun j=>[(45,.int .i64 (j:Nat))]) (fun j=>[(b10,[.int .i64 (gustR l p q (a+j))],some (3,1,1))]) (fun j=>j≤m-a) (fun j=>m-a-j) (0)
 (repeat (first|exact KeepF.nil|(apply KeepF.cons;exact rfl)|apply KeepF.skip))
 (repeat first|exact FrSub.nil|(apply FrSub.cons;exact rfl))
 (repeat (first|exact HpSub.refl _|(apply HpSub.consE;(repeat first|exact P0|apply P1);(first|exact rfl|exact congrArg (fun z=>[Value.int .i64 z]) hz.symm))|exact HpSub.nil))
 · omega
 intro j hj
 try simp only [List.cons_append,List.nil_append]
 by_cases hlt:j<m-a
 · obtain ⟨b',o',x,hA,_,hx,c0,c1,c2,c3,c4,c5⟩:=gl_read hr (show a+j<n by omega)
   obtain ⟨rfl,rfl⟩:b=b'∧o=o':=by simpa using hA
   rw [show o+(a+j)*6=o+a*6+j*6 by omega] at c0 c1 c2 c3 c4 c5
   have hcnt:cntG l p q (a+j)=true:=by rw [hcn (a+j) (by omega)];simp;omega
   ((all_goals refine goJ0e ?_);(all_goals constructor);(any_goals exact trivial);all_goals intros)
   all_goals (refine ⟨j+1,by omega,by omega,?_,?_⟩<;>(try simp only [List.cons_append,List.nil_append])<;>(repeat' (first|exact FrSub.nil|(apply FrSub.cons;exact rfl)|(apply HpSub.consE;(repeat first|exact P0|apply P1);first|exact rfl|(exact congrArg (fun z=>[Value.int .i64 z]) (gustR_yes hx hcnt).symm))|exact HpSub.nil)))
 · obtain rfl:j=m-a:=by omega
   rw [he]
   change 0≤gustV l p q∧gustV l p q≤500 at G
   clear hz he hcn
   ((all_goals refine goJ0e ?_);(all_goals constructor);(any_goals exact trivial);all_goals intros)
   all_goals rfl
end Go.Proofs.YtcjkndjjbjoehaaGreat
