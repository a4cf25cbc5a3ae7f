/- A part of the proof: rules for walks, and contracts of functions (8). -/
import Derived.Test.YtcjkndjjbjoehaaGreatXBG
import Derived.Test.YtcjkndjjbjoehaaGreatXBD
import Derived.Test.YtcjkndjjbjoehaaGreatXBC
import Derived.Test.YtcjkndjjbjoehaaGreatXBA
import Derived.ProofKit
import Derived.Lib.SmallJoins
import Derived.Test.YtcjkndjjbjoehaaGreatXBB
import Derived.MapKept
import Derived.Carry
set_option linter.unusedVariables false
set_option linter.unusedSimpArgs false
set_option maxRecDepth 100000
set_option maxHeartbeats 2000000
namespace Go.Proofs.YtcjkndjjbjoehaaGreat
theorem gqH1 {G A1 A2 A3 A4 A5 A6 A7 A8 A9 A10 A11 A12 A13 A14 A15 A16:Prop} (p:GoP A1 A2 A3 A4 A5 A6 A7 A8 A9 A10 A11 A12 A13 A14 A15 A16) (h:GoL A1→GoL A2→GoL A3→GoL A4→GoL A5→GoL A6→GoL A7→GoL A8→GoL A9→GoL A10→GoL A11→GoL A12→GoL A13→GoL A14→GoL A15→GoL A16→GoM→G:=by intro m1 m2 m3 m4 m5 m6 m7 m8 m9 m10 m11 m12 m13 m14 m15 m16 _;(repeat' (first|((with_reducible apply oq_id);first|((with_reducible apply oc_id);first|((with_reducible apply oq_call (hc:=Tryz.call67));exact rfl;exact rfl;(intro D w1 hw1;refine rfrom1_t ?_ hw1 (by (repeat first|exact P0|apply P1));omega))|((with_reducible apply oq_call (hc:=Tryz.call67));exact rfl;exact rfl;(intro D w1 hw1;refine rfrom1_f ?_ hw1 (by (repeat first|exact P0|apply P1));omega))|((with_reducible apply oq_call (hc:=Tryz.call54));exact rfl;exact rfl;exact fun D w1 hw1=>HC w1 hw1.ext.ext)|((with_reducible apply oq_call (hc:=Tryz.call86));exact rfl;exact rfl;exact fun D w1 hw1=>HL w1))|(focus ((with_reducible apply (oq_subE (k:=(n:Int)-1)));exact rfl;exact rfl;omega))|(focus ((with_reducible apply oq_indexAddrN (i:=j));(iterate 4 exact rfl);omega))|(apply oq_fn;exact rfl;first|exact trivial|(and_intros<;>omega)|omega|skip)|((with_reducible apply oq_load);exact rfl;exact rfl)|((with_reducible apply oq_loadAgg);exact rfl;exact rfl))|((with_reducible apply tl_id);first|(with_reducible apply tl_nil)|((with_reducible apply u_q);(iterate 4 exact rfl))|((with_reducible apply u_s);(iterate 3 exact rfl)))|((with_reducible apply os_id);first|((with_reducible apply os_x);exact rfl))|((with_reducible apply ox_id);first|((with_reducible apply ox_boxAgg);exact rfl;intro _)|((with_reducible apply ox_buildSlice1);(iterate 6 exact rfl);intro _))|((with_reducible apply rd_id);first|(apply Rd.own;(repeat first|exact P0|apply P1);exact rfl;done)|(apply Rd.old;(first|(with_reducible assumption)|exact c0|exact c1|exact c2|exact c3|exact c4|exact c5|exact c6|exact c7|exact c8|exact d0|exact d1|exact d2|exact d3|exact d4|exact d5);first|exact List.not_mem_nil|exact m0|exact m1|exact m2|exact m3|exact m4|exact m5|exact m6|exact m7|exact m8|exact m9))|((with_reducible apply t_id);first|(with_reducible apply t_seq)|(apply t_region;kernel_rfl)|((with_reducible apply t_condT);exact rfl)|((with_reducible apply t_condF);exact rfl)|(with_reducible apply t_ret)|(with_reducible apply t_skip))|with_reducible apply q_thenN|with_reducible apply q_thenR|exact Rdn.zero|apply Rdn.succ|(with_reducible apply end_ret)|exact rvs_nil|(with_reducible apply rvs_cons)|((with_reducible apply rv_tmp);exact rfl)));(try focus (repeat (rename_i x;first|exact goD x m1.p|revert x)));(try focus (repeat (rename_i x;first|exact goD x m2.p|revert x)));(try focus (repeat (rename_i x;first|exact goD x m3.p|revert x)));(try focus (repeat (rename_i x;first|exact goD x m4.p|revert x)));(try focus (repeat (rename_i x;first|exact goD x m5.p|revert x)));(try focus (repeat (rename_i x;first|exact goD x m6.p|revert x)));(try focus (repeat (rename_i x;first|exact goD x m7.p|revert x)));(try focus (repeat (rename_i x;first|exact goD x m8.p|revert x)));(try focus (repeat (rename_i x;first|exact goD x m9.p|revert x)));(try focus (repeat (rename_i x;first|exact goD x m10.p|revert x)));(try focus (repeat (rename_i x;first|exact goD x m11.p|revert x)));(try focus (repeat (rename_i x;first|exact goD x m12.p|revert x)));(try focus (repeat (rename_i x;first|exact goD x m13.p|revert x)));(try focus (repeat (rename_i x;first|exact goD x m14.p|revert x)));(try focus (repeat (rename_i x;first|exact goD x m15.p|revert x)));(try focus (repeat (rename_i x;first|exact goD x m16.p|revert x)))) (e:GoTs A1 A2 A3 A4 A5 A6 A7 A8 A9 A10 A11 A12 A13 A14 A15 A16:=by constructor<;>first|(with_reducible exact GoT.t)|exact GoT.u):G:=p.run h
theorem goJ2e {G A1 A2 A3 A4 A5 A6 A7 A8 A9 A10 A11 A12 A13 A14 A15 A16:Prop} (p:GoP A1 A2 A3 A4 A5 A6 A7 A8 A9 A10 A11 A12 A13 A14 A15 A16) (h:GoL A1→GoL A2→GoL A3→GoL A4→GoL A5→GoL A6→GoL A7→GoL A8→GoL A9→GoL A10→GoL A11→GoL A12→GoL A13→GoL A14→GoL A15→GoL A16→GoM→G:=by intro m1 m2 m3 m4 m5 m6 m7 m8 m9 m10 m11 m12 m13 m14 m15 m16 _;(repeat' (first|((with_reducible apply oq_id);first|((with_reducible apply oc_id);first|((with_reducible apply oq_call (hc:=Tryz.call39));exact rfl;exact rfl;exact fun D w1 hw1=>HX w1 hw1.ext.ext)|((with_reducible apply oq_call (hc:=Tryz.call130));exact rfl;exact rfl;exact fun D w1 hw1=>HA w1)|((with_reducible apply oq_call (hc:=Tryz.call130));exact rfl;exact rfl;exact fun D w1 hw1=>HC w1)|((with_reducible apply oq_call (hc:=Tryz.call118));exact rfl;exact rfl;exact fun D w1 hw1=>HR w1)|((with_reducible apply oq_call (hc:=Tryz.call149));exact rfl;exact rfl;exact fun D w1 hw1=>HX w1 hw1.ext.ext)|((with_reducible apply oq_call (hc:=Tryz.call150));exact rfl;exact rfl;exact fun D w1 hw1=>HA w1)|((with_reducible apply oq_call (hc:=Tryz.call150));exact rfl;exact rfl;exact fun D w1 hw1=>HC w1)|((with_reducible apply oq_call (hc:=Tryz.call126));exact rfl;exact rfl;exact fun D w1 hw1=>HR w1)|((with_reducible apply oq_call (hc:=Tryz.call148));exact rfl;exact rfl;exact fun D w1 hw1=>HS w1))|((with_reducible apply ob_id);first|((with_reducible apply oq_neg);exact rfl;(refine ⟨?_,?_⟩<;>omega))|(focus ((with_reducible apply (oq_mulE (k:=v*v)));(iterate 3 exact rfl);(refine ⟨?_,?_⟩<;>omega)))|(focus ((with_reducible apply (oq_mulE (k:=fr*fr)));(iterate 3 exact rfl);(refine ⟨?_,?_⟩<;>omega)))|(focus ((with_reducible apply (oq_mulE (k:=nr*nr)));(iterate 3 exact rfl);(refine ⟨?_,?_⟩<;>omega)))|(focus ((with_reducible apply (oq_subE (k:=v*v-fr*fr)));exact rfl;exact rfl;omega))|(focus ((with_reducible apply (oq_subE (k:=v*v-nr*nr)));exact rfl;exact rfl;omega))|(focus ((with_reducible apply (oq_addE (k:=h+q2)));exact rfl;exact rfl;omega))|(focus ((with_reducible apply (oq_addE (k:=al+r0)));exact rfl;exact rfl;omega))|(focus ((with_reducible apply (oq_addE (k:=ah+r1)));exact rfl;exact rfl;omega))|(focus ((with_reducible apply (oq_addE (k:=((acc.length+1:Nat):Int))));exact rfl;exact rfl;omega))|((with_reducible apply oq_gtrT);exact rfl;exact rfl;omega)|((with_reducible apply oq_gtrF);exact rfl;exact rfl;omega)|((with_reducible apply oq_lssT);exact rfl;exact rfl;omega)|((with_reducible apply oq_lssF);exact rfl;exact rfl;omega))|(focus ((with_reducible apply oq_indexAddrN);(iterate 4 exact rfl);omega))|((with_reducible apply (oq_max2E (k:=up)));exact rfl;exact rfl;exact hup)|((with_reducible apply (oq_max2E (k:=fr)));exact rfl;exact rfl;exact hfr)|((with_reducible apply (oq_max3E (r:=nr)));(iterate 3 exact rfl);exact hnr)|((with_reducible apply (oq_max2E (k:=max (al+r0) 0)));(iterate 3 exact rfl))|(apply oq_fn;exact rfl;first|exact trivial|(and_intros<;>omega)|omega|skip)|((with_reducible apply oq_load);exact rfl;exact rfl)|((with_reducible apply oq_loadAgg);exact rfl;exact rfl)|((with_reducible apply oq_build);(iterate 3 exact rfl)))|((with_reducible apply tl_id);first|(with_reducible apply tl_nil)|((with_reducible apply u_q);(iterate 4 exact rfl))|((with_reducible apply u_s0);exact rfl;exact rfl)|((with_reducible apply u_s);(iterate 3 exact rfl)))|((with_reducible apply gx_id);first|(with_reducible apply v_nil)|((with_reducible apply v_q);(iterate 3 exact rfl)))|((with_reducible apply os_id);first|((with_reducible apply os_x);exact rfl)|((with_reducible apply os_storeAgg);(iterate 5 exact rfl))|((with_reducible apply os_append (hk:=app_ok178));exact rfl;exact rfl;(repeat first|exact P0|apply P1))|((with_reducible apply os_appendNil (hk:=app_ok178));exact rfl;exact rfl))|((with_reducible apply ox_id);first|((with_reducible apply ox_alloc);exact rfl;intro _)|((with_reducible apply ox_boxAgg);exact rfl;intro _)|((with_reducible apply ox_buildSlice2);(iterate 6 exact rfl);intro _))|((with_reducible apply rd_id);first|(apply Rd.own;(repeat first|exact P0|apply P1);exact rfl;done)|(apply Rd.old;(first|(with_reducible assumption)|exact c0|exact c1|exact c2|exact c3|exact c4|exact c5|exact c6|exact c7|exact c8|exact d0|exact d1|exact d2|exact d3|exact d4|exact d5);first|exact List.not_mem_nil|exact m0|exact m1|exact m2|exact m3|exact m4|exact m5|exact m6|exact m7|exact m8|exact m9))|((with_reducible apply t_id);first|(with_reducible apply t_seq)|(apply t_region;kernel_rfl)|(apply t_drawn;kernel_rfl;decide +kernel;try simp only [List.append_eq,List.cons_append,List.nil_append])|((with_reducible apply t_condT);exact rfl)|((with_reducible apply t_condF);exact rfl)|(with_reducible apply t_ret)|(with_reducible apply t_skip)|(with_reducible apply t_exit)|(with_reducible apply t_block))|with_reducible apply q_thenN|with_reducible apply q_thenR|with_reducible apply q_blockR|with_reducible apply q_blockN|with_reducible apply q_thenE|((with_reducible apply q_blockE);exact rfl)|exact P0|exact Rdn.zero|apply Rdn.succ|((with_reducible apply Norm.nil);exact rfl)|((with_reducible apply Norm.cons);exact rfl)|(with_reducible apply end_ret)|exact rvs_nil|(with_reducible apply rvs_cons)|((with_reducible apply rv_tmp);exact rfl)|exact rt_len _|exact Nat.le_of_ble_eq_true rfl|exact (rfl:(_:Bool)=true)|omega|(intro _ _;with_reducible apply tl_id)));(try focus (repeat (rename_i x;first|exact goD x m1.p|revert x)));(try focus (repeat (rename_i x;first|exact goD x m2.p|revert x)));(try focus (repeat (rename_i x;first|exact goD x m3.p|revert x)));(try focus (repeat (rename_i x;first|exact goD x m4.p|revert x)));(try focus (repeat (rename_i x;first|exact goD x m5.p|revert x)));(try focus (repeat (rename_i x;first|exact goD x m6.p|revert x)));(try focus (repeat (rename_i x;first|exact goD x m7.p|revert x)));(try focus (repeat (rename_i x;first|exact goD x m8.p|revert x)));(try focus (repeat (rename_i x;first|exact goD x m9.p|revert x)));(try focus (repeat (rename_i x;first|exact goD x m10.p|revert x)));(try focus (repeat (rename_i x;first|exact goD x m11.p|revert x)));(try focus (repeat (rename_i x;first|exact goD x m12.p|revert x)));(try focus (repeat (rename_i x;first|exact goD x m13.p|revert x)));(try focus (repeat (rename_i x;first|exact goD x m14.p|revert x)));(try focus (repeat (rename_i x;first|exact goD x m15.p|revert x)));(try focus (repeat (rename_i x;first|exact goD x m16.p|revert x)))) (e:GoTs A1 A2 A3 A4 A5 A6 A7 A8 A9 A10 A11 A12 A13 A14 A15 A16:=by constructor<;>first|(with_reducible exact GoT.t)|exact GoT.u):G:=p.run h
theorem goK0e {G A1 A2 A3 A4 A5 A6 A7 A8 A9 A10 A11 A12 A13 A14 A15 A16:Prop} (p:GoP A1 A2 A3 A4 A5 A6 A7 A8 A9 A10 A11 A12 A13 A14 A15 A16) (h:GoL A1→GoL A2→GoL A3→GoL A4→GoL A5→GoL A6→GoL A7→GoL A8→GoL A9→GoL A10→GoL A11→GoL A12→GoL A13→GoL A14→GoL A15→GoL A16→GoM→G:=by intro m1 m2 m3 m4 m5 m6 m7 m8 m9 m10 m11 m12 m13 m14 m15 m16 _;(repeat' (first|((with_reducible apply oq_id);first|((with_reducible apply oc_id);first|((with_reducible apply oq_call (hc:=Tryz.call161));exact rfl;exact rfl;exact fun D w1 hw1=>SX w1)|((with_reducible apply oq_call (hc:=Tryz.call161));exact rfl;exact rfl;exact fun D w1 hw1=>SY w1)|((with_reducible apply oq_call (hc:=Tryz.call160));exact rfl;exact rfl;exact fun D w1 hw1=>MX w1)|((with_reducible apply oq_call (hc:=Tryz.call162));exact rfl;exact rfl;exact fun D w1 hw1=>DX w1))|((with_reducible apply ob_id);first|(focus ((with_reducible apply oq_neqB);exact rfl;exact rfl))|(focus ((with_reducible apply (oq_quoI (k:=((x / 60:Nat):Int))));exact rfl;exact rfl;exact ⟨tdiv_nat rfl rfl,by omega,by omega,by omega⟩))|(focus ((with_reducible apply (oq_remI (k:=((x % 60:Nat):Int))));exact rfl;exact rfl;exact tmod_natO rfl rfl;omega))|(focus ((with_reducible apply (oq_quoI (k:=((4398046511104 / (x / 60):Nat):Int))));exact rfl;exact rfl;exact ⟨tdiv_nat rfl rfl,by omega,by omega,by omega⟩))|(focus ((with_reducible apply (oq_mulE (k:=((hy2:Nat):Int))));exact rfl;exact rfl;exact em;(refine ⟨?_,?_⟩<;>omega)))|(focus ((with_reducible apply (oq_addE (k:=((hy2+v:Nat):Int))));exact rfl;exact rfl;omega))|(focus ((with_reducible apply (oq_quoI (k:=(q:Nat))));exact rfl;exact rfl;exact ⟨(tdiv_nat rfl rfl).trans (by rw [hq]),by omega,by omega,by omega⟩))|(focus ((with_reducible apply (oq_quoI (k:=((b / 2:Nat):Int))));exact rfl;exact rfl;exact ⟨tdiv_nat rfl rfl,by omega,by omega,by omega⟩))|(focus ((with_reducible apply (oq_remI (k:=((q % 2:Nat):Int))));exact rfl;exact rfl;exact tmod_natO rfl rfl;omega))|(focus ((with_reducible apply (oq_mulE (k:=((2*v:Nat):Int))));exact rfl;exact rfl;omega;(refine ⟨?_,?_⟩<;>omega)))|(focus ((with_reducible apply (oq_mulE (k:=((2*r:Nat):Int))));exact rfl;exact rfl;omega;(refine ⟨?_,?_⟩<;>omega)))|(focus ((with_reducible apply (oq_addE (k:=((2*r+low:Nat):Int))));exact rfl;exact rfl;omega))|((with_reducible apply oq_gtrT);exact rfl;exact rfl;omega)|((with_reducible apply oq_gtrF);exact rfl;exact rfl;omega)|((with_reducible apply oq_lssT);exact rfl;exact rfl;omega)|((with_reducible apply oq_lssF);exact rfl;exact rfl;omega)|((with_reducible apply oq_eqlT);exact rfl;exact rfl;omega)|((with_reducible apply oq_eqlF);exact rfl;exact rfl;omega)|(focus ((with_reducible apply (oq_subE (k:=((r1-60:Nat):Int))));exact rfl;exact rfl;omega))|(focus ((with_reducible apply (oq_addE (k:=((v1+1:Nat):Int))));exact rfl;exact rfl;omega))|((with_reducible apply oq_geqT);exact rfl;exact rfl;omega)|((with_reducible apply oq_geqF);exact rfl;exact rfl;omega))|(focus ((with_reducible apply oq_convU);(iterate 3 exact rfl);(refine ⟨?_,?_⟩<;>omega)))|((with_reducible apply (oq_min2E (k:=((hy2+v:Nat):Int))));exact rfl;exact rfl;omega)|(apply oq_fn;exact rfl;first|exact trivial|(and_intros<;>omega)|omega|skip)|((with_reducible apply oq_load);exact rfl;exact rfl)|((with_reducible apply oq_loadAgg);exact rfl;exact rfl)|((with_reducible apply oq_build);(iterate 3 exact rfl)))|((with_reducible apply tl_id);first|(with_reducible apply tl_nil)|((with_reducible apply u_q);(iterate 4 exact rfl))|((with_reducible apply u_s0);exact rfl;exact rfl)|((with_reducible apply u_s);(iterate 3 exact rfl))|((with_reducible apply u_skip);(iterate 3 exact rfl)))|((with_reducible apply gx_id);first|(with_reducible apply v_nil)|((with_reducible apply v_q);(iterate 3 exact rfl)))|((with_reducible apply os_id);first|((with_reducible apply os_x);exact rfl)|((with_reducible apply os_store);(iterate 4 exact rfl))|((with_reducible apply os_storeAgg);(iterate 5 exact rfl)))|((with_reducible apply ox_id);first|((with_reducible apply ox_alloc);exact rfl;intro _))|((with_reducible apply rd_id);first|(apply Rd.own;(repeat first|exact P0|apply P1);exact rfl;done))|((with_reducible apply t_id);first|(apply t_mix (id:=1) [0,1,2,3,4,5,6,7] 0 #[false,false,false,false,false,false,false,false];kernel_rfl;kernel_rfl;exact rfl)|(with_reducible apply t_seq)|(apply t_region;kernel_rfl)|((with_reducible apply t_condT);exact rfl)|((with_reducible apply t_condF);exact rfl)|(with_reducible apply t_ret)|(with_reducible apply t_skip)|(with_reducible apply t_exit)|(with_reducible apply t_block))|with_reducible apply q_thenN|with_reducible apply q_blockN|with_reducible apply q_thenE|((with_reducible apply q_blockE);exact rfl)|exact P0|(with_reducible apply P1)|exact Rdn.zero|apply Rdn.succ|((with_reducible apply Norm.nil);exact rfl)|((with_reducible apply Norm.cons);exact rfl)|(with_reducible apply end_ret)|exact rvs_nil|(with_reducible apply rvs_cons)|((with_reducible apply rv_tmp);exact rfl)|((with_reducible apply rv_cellAgg);exact rfl;exact rfl)|((with_reducible apply al_id);first|(apply al_done;decide +kernel))|exact Nat.le_of_ble_eq_true rfl));(try focus (repeat (rename_i x;first|exact goD x m1.p|revert x)));(try focus (repeat (rename_i x;first|exact goD x m2.p|revert x)));(try focus (repeat (rename_i x;first|exact goD x m3.p|revert x)));(try focus (repeat (rename_i x;first|exact goD x m4.p|revert x)));(try focus (repeat (rename_i x;first|exact goD x m5.p|revert x)));(try focus (repeat (rename_i x;first|exact goD x m6.p|revert x)));(try focus (repeat (rename_i x;first|exact goD x m7.p|revert x)));(try focus (repeat (rename_i x;first|exact goD x m8.p|revert x)));(try focus (repeat (rename_i x;first|exact goD x m9.p|revert x)));(try focus (repeat (rename_i x;first|exact goD x m10.p|revert x)));(try focus (repeat (rename_i x;first|exact goD x m11.p|revert x)));(try focus (repeat (rename_i x;first|exact goD x m12.p|revert x)));(try focus (repeat (rename_i x;first|exact goD x m13.p|revert x)));(try focus (repeat (rename_i x;first|exact goD x m14.p|revert x)));(try focus (repeat (rename_i x;first|exact goD x m15.p|revert x)));(try focus (repeat (rename_i x;first|exact goD x m16.p|revert x)))) (e:GoTs A1 A2 A3 A4 A5 A6 A7 A8 A9 A10 A11 A12 A13 A14 A15 A16:=by constructor<;>first|(with_reducible exact GoT.t)|exact GoT.u):G:=p.run h
open Go.RowKit
attribute [local irreducible] OQ OS OX Rd T TL GX GL AL AI RV wpG SAny Calls
def rtCells (z:Int×Int):List Value:=[.int .i64 z.1,.int .i64 z.2]
def sR (l:List (Int×Int)):Option (Nat×Nat)→Value
 | none=>.slice none 0 0
 | some (b,cap)=>.slice (some ⟨b,0,none⟩) l.length cap
def hR (l:List (Int×Int)):Option (Nat×Nat)→Hp
 | none=>[]
 | some (b,cap)=>[(b,(l.map rtCells).flatten,some (205,2,cap))]
theorem rt_len (l:List (Int×Int)):((l.map rtCells).flatten).length=l.length*2:=by
 induction l with
 | nil=>rfl
 | cons a l ih=>simp only [List.map_cons,List.flatten_cons,List.length_append,ih,List.length_cons,rtCells,List.length_nil];omega
def LsR (l:List (Int×Int)) (v:Value) (H:Hp):Prop:=∃ o,(o=none→l=[])∧v=sR l o∧H=hR l o
theorem sR_snoc (l:List (Int×Int)) (z:Int×Int) (b cap:Nat):sR (l++[z]) (some (b,cap))=.slice (some ⟨b,0,none⟩) (l.length+1) cap:=by simp [sR]
theorem hR_snoc (l:List (Int×Int)) (s f:Int) (b cap:Nat):hR (l++[(s,f)]) (some (b,cap))=[(b,(l.map rtCells).flatten++[.int .i64 s,.int .i64 f],some (205,2,cap))]:=by simp [hR,rtCells]
def Pre {α β:Type} (f:α→Option β) (L:List α) (acc:List β):Prop:=(L.take acc.length).map f=acc.map some∧acc.length≤L.length
theorem pre_nil {α β:Type} (f:α→Option β) (L:List α):Pre f L []:=⟨rfl,Nat.zero_le _⟩
theorem pre_snoc {α β:Type} {f:α→Option β} {L:List α} {acc:List β} {x:α} {z:β} (h:Pre f L acc) (hx:L[acc.length]?=some x) (hz:f x=some z):Pre f L (acc++[z]):=by
 refine ⟨?_,?_⟩
 · rw [List.length_append,List.length_singleton,List.take_add_one,hx,List.map_append,List.map_append,h.1]
   simp [hz]
 · have:=(List.getElem?_eq_some_iff.1 hx).1
   rw [List.length_append,List.length_singleton];omega
theorem map_some {α β:Type} {f:α→Option β}:∀ {L:List α} {acc:List β},L.map f=acc.map some→(L.all fun z=>(f z).isSome)=true∧L.filterMap f=acc
 | [],[],_=>⟨rfl,rfl⟩
 | [],_::_,h=>by cases h
 | _::_,[],h=>by cases h
 | x::L,z::acc,h=>by
   simp only [List.map_cons,List.cons.injEq] at h
   obtain ⟨i1,i2⟩:=map_some h.2
   refine ⟨?_,?_⟩
   · rw [List.all_cons,i1,h.1];rfl
   · rw [List.filterMap_cons,h.1,i2]
theorem ratesV_pre {v up x y:Int} {L acc:List _} (h:Pre (wrate v up x y) L acc) (hl:acc.length=L.length):ratesV v up x y L=acc:=by
 have h1:=h.1
 rw [List.take_of_length_le (by omega)] at h1
 obtain ⟨i1,i2⟩:=map_some h1
 unfold ratesV
 rw [if_pos i1,i2]
theorem ratesV_no {v up x y:Int} {L:List Wn} {z:Wn} (h:z∈L) (hz:wrate v up x y z=none):ratesV v up x y L=[]:=by
 unfold ratesV
 rw [if_neg]
 intro e
 have:=List.all_eq_true.1 e z h
 rw [hz] at this;cases this
theorem oq_max3E {c:Cx} {F:Fr} {H:Hp} {d:Option Tmp} {ty:TypeId} {pos:String} {af:Array Edge} {g:Option (Nat×Bool)} {x y z:Operand} {m n k r:Int} {T:Array TypeId} (hx:ev F x=some (.int .i64 m)) (hy:ev F y=some (.int .i64 n)) (hz:ev F z=some (.int .i64 k)) (e:max (max m n) k=r):OQ c ⟨d,.call ⟨.builtin .max,#[x,y,z],T⟩,ty,pos,af,g⟩ F H (.int .i64 r):=
 (oq_max3 hx hy hz).as (by rw [e])
theorem rates_calls (v q1 q2 q3 q4 g0 g1 up x y:Int) (A:Option Addr) (n cp:Nat) (L:List Wn) (w:World) (hr:CastR w A n L) (hs:∀ z∈L,z.n≤1000000) (hb:∀ z∈L,windB z.l=true) (hn:n≤8) (hv:1≤v∧v≤1000) (hu : -500≤up∧up≤20000) (hw:WayIn x y):Calls Tryz.prog 102 #[.agg #[.int .i64 v,.int .i64 q1,.int .i64 q2,.int .i64 q3,.int .i64 q4,.int .i64 g0,.int .i64 g1],.slice A n cp,.int .i64 up,.int .i64 x,.int .i64 y] w fun e w'=>∃ u H',e=.returned u∧LsR (ratesV v up x y L) u H'∧Has w ⟨[],[]⟩ H' w':=by
 have hl:=hr.len
 refine enterF (c:=cx w 113) Tryz.func102 rfl rfl rfl rfl ?_
 refine t_cut (ι:=Nat) (fun b5=>[(1,.slice A n cp),(2,.int .i64 up),(3,.int .i64 x),(4,.int .i64 y),(5,.pointer (some ⟨b5,0,none⟩))]) (fun b5=>[(b5,[.int .i64 v,.int .i64 q1,.int .i64 q2,.int .i64 q3,.int .i64 q4,.int .i64 g0,.int .i64 g1],some (29,7,1))]) (fun _=>True) ?_ ?_
 · ((all_goals refine goJ0e ?_);(all_goals constructor);(any_goals exact trivial);all_goals intros)
   all_goals exact ⟨rfl,_,trivial,by (repeat first|exact FrSub.nil|(apply FrSub.cons;exact rfl)),by (repeat (first|exact HpSub.refl _|(apply HpSub.consE;(repeat first|exact P0|apply P1);exact rfl)|exact HpSub.nil))⟩
 rintro b5 -
 try dsimp only
 ((all_goals refine goJ0e ?_);(all_goals constructor);(any_goals exact trivial);all_goals intros)
 apply t_loopK (ι:=List (Int×Int)×Option (Nat×Nat)) [2,3,4,5,25,26,112] (fun z=>[(27,.int .i64 ((z.1.length:Nat):Int)),(11,sR z.1 z.2)]) (fun z=>(b5,[.int .i64 v,.int .i64 q1,.int .i64 q2,.int .i64 q3,.int .i64 q4,.int .i64 g0,.int .i64 g1],some (29,7,1))::hR z.1 z.2) (fun z=>z.1.length≤n∧Pre (wrate v up x y) L z.1∧(z.2=none→z.1=[])) (fun z=>n-z.1.length) (([],none))
 (repeat (first|exact KeepF.nil|(apply KeepF.cons;exact rfl)|apply KeepF.skip))
 (repeat first|exact FrSub.nil|(apply FrSub.cons;exact rfl))
 (repeat (first|exact HpSub.refl _|(apply HpSub.consE;(repeat first|exact P0|apply P1);exact rfl)|exact HpSub.nil))
 · exact ⟨Nat.zero_le _,pre_nil _ _,fun _=>rfl⟩
 rintro ⟨acc,o⟩ ⟨hj,hpre,ho⟩
 simp only at hj hpre ho
 try simp only [List.cons_append,List.nil_append]
 by_cases hlt:acc.length<n
 · obtain ⟨b,o',z,rfl,_,hz,c0,hrx,hcx⟩:=hr.read hlt
   have hm:=List.mem_of_getElem? hz
   obtain ⟨a,bb,cc,d,al,ah,cl,ch,e1,e2,e3,hF,er,es⟩:=wn_all (hb z hm) hv hu hw
   have HX:=fun w1 (e:Ext w w1)=>windAt_calls z.A z.n z.c z.l up up w1 (hrx.ext e) (hs z hm) hcx
   have HA:=fun w1=>airAlong_calls a bb cc d x y w1
   have HC:=fun w1=>airAlong_calls a bb cc d (-y) x w1
   rw [e1] at HX
   rw [e2] at HA
   rw [e3] at HC
   simp only at HA HC
   have f1:=hF.a1
   have f2:=hF.a2
   have f3:=hF.a3
   have f4:=hF.c1
   have f5:=hF.c2
   have f6:=hF.c3
   obtain ⟨hwx,hwy,hwz⟩:=hw
   have hsq:=hF.sqs
   unfold rate at er
   obtain ⟨fr,hfr0⟩:∃ r,farR cl ch=r:=⟨_,rfl⟩
   obtain ⟨nr,hnr0⟩:∃ r,nearR cl ch=r:=⟨_,rfl⟩
   rw [hfr0,hnr0] at er hsq
   have hfr:max (-cl) ch=fr:=hfr0
   have hnr:max (max 0 cl) (-ch)=nr:=hnr0
   clear hfr0 hnr0
   by_cases hv2:v<fr
   · have hnone:wrate v up x y z=none:=by rw [er,if_pos hv2]
     clear er es hsq
     ((all_goals refine goJ2e ?_);(all_goals constructor);(any_goals exact trivial);all_goals intros)
     all_goals (rw [ratesV_no (List.mem_of_getElem? hz) hnone];exact ⟨_,⟨none,(fun _=>rfl),rfl,rfl⟩,HpSub.nil⟩)
   · obtain ⟨k1,k2,k3,k4,k5,k6⟩:=hsq hv2
     have HR:=fun w1=>boundRoot_calls (v*v-fr*fr) (v*v-nr*nr) w1
     rw [rootV_eq k1 k2 k3] at HR
     simp only at HR
     have kr:=rt_bound k1 (by omega)
     have kh:=rt_bound (show 0≤v*v-nr*nr by omega) k3
     have kh2:=rtHi_ge (v*v-nr*nr)
     rw [if_neg hv2] at er
     obtain ⟨r0,hr0⟩:∃ r,rt (v*v-fr*fr)=r:=⟨_,rfl⟩
     obtain ⟨r1,hr1⟩:∃ r,rtHi (v*v-nr*nr)=r:=⟨_,rfl⟩
     rw [hr0,hr1] at HR er
     rw [hr0] at kr
     rw [hr1] at kh kh2
     clear hsq hr0 hr1 es
     by_cases hs1:al+r0<1
     · have hnone:wrate v up x y z=none:=by rw [er,if_pos hs1]
       clear er
       ((all_goals refine goJ2e ?_);(all_goals constructor);(any_goals exact trivial);all_goals intros)
       all_goals (rw [ratesV_no (List.mem_of_getElem? hz) hnone];exact ⟨_,⟨none,(fun _=>rfl),rfl,rfl⟩,HpSub.nil⟩)
     · rw [if_neg hs1] at er
       have hpre':=pre_snoc hpre hz er
       rcases o with _|⟨bo,co⟩
       · obtain rfl:=ho rfl
         ((all_goals refine goJ2e ?_);(all_goals constructor);(any_goals exact trivial);all_goals intros)
         all_goals (rename_i bN cN;refine ⟨(_++[(al+r0,ah+r1)],some (bN,cN)),⟨(by simp only [List.length_append,List.length_singleton,List.length_nil];first|exact hlt|omega),hpre',fun h=>by cases h⟩,(by simp only [List.length_append,List.length_singleton,List.length_nil];omega),?_,?_⟩<;>(try simp only [sR_snoc,hR_snoc,List.length_append,List.length_singleton])<;>(repeat' (first|exact FrSub.nil|(apply FrSub.cons;exact rfl)|exact HpSub.refl _|(apply HpSub.consE;(repeat first|exact P0|apply P1);first|exact rfl|(simp [rtCells];done))|apply HpSub.skipX)))
       · ((all_goals refine goJ2e ?_);(all_goals constructor);(any_goals exact trivial);all_goals intros)
         all_goals (rename_i bN cN;refine ⟨(acc++[(al+r0,ah+r1)],some (bN,cN)),⟨(by simp only [List.length_append,List.length_singleton];first|exact hlt|omega),hpre',fun h=>by cases h⟩,(by simp only [List.length_append,List.length_singleton];omega),?_,?_⟩<;>(try simp only [sR_snoc,hR_snoc,List.length_append,List.length_singleton])<;>(repeat' (first|exact FrSub.nil|(apply FrSub.cons;exact rfl)|exact HpSub.refl _|(apply HpSub.consE;(repeat first|exact P0|apply P1);first|exact rfl|(simp [rtCells];done))|apply HpSub.skipX)))
 · have hv3:=ratesV_pre hpre (by omega)
   ((all_goals refine goJ2e ?_);(all_goals constructor);(any_goals exact trivial);all_goals intros)
   all_goals (rw [hv3];exact ⟨_,⟨o,ho,rfl,rfl⟩,HpSub.skipX (by simp only [List.append_nil];exact HpSub.refl _)⟩)
def upV (q1 q2 h:Int):Int:=max q1 (h+q2)
def turnX (bk:Bool) (x:Int):Int:=if bk then -x else x
theorem tdiv_nat {m n:Int} {a b:Nat} (e:m=(a:Int)) (e2:n=(b:Int)):m.tdiv n=((a / b:Nat):Int):=by rw [e,e2];rfl
theorem tmod_natO {m n:Int} {a b:Nat} (e:m=(a:Int)) (e2:n=(b:Int)):m.tmod n=((a % b:Nat):Int):=by rw [e,e2,Int.ofNat_tmod]
def qf (m:Nat):Nat:=m / 60
def qc (m:Nat):Nat:=if m % 60=0 then m / 60 else m / 60+1
theorem qf_bound {m:Nat} (h:m≤10000000000000):qf m≤166666666666∧qf m≤qc m∧qc m≤166666666667:=by
 unfold qf qc
 split<;>omega
theorem share60_calls (x y:Nat) (hx:x≤10000000) (hy:y≤1000000) (w:World):Calls Tryz.prog 141 #[.int .i64 (x:Nat),.int .i64 (y:Nat),.int .i64 60] w fun e w'=>e=.returned (.agg #[.int .i64 (qf (x*y):Nat),.int .i64 (qc (x*y):Nat)])∧Ext w w':=by
 have hm:x*y≤10000000000000:=Nat.le_trans (Nat.mul_le_mul hx hy) (by decide)
 have SX:=fun w1=>size_calls (x:Int) (by omega) (by omega) w1
 have SY:=fun w1=>size_calls (y:Int) (by omega) (by omega) w1
 rw [Int.max_eq_left (by omega)] at SX SY
 have MX:=fun w1=>mul64_calls (x:Int) (y:Int) (by omega) (by omega) (by omega) (by omega) w1
 have em:(x:Int)*(y:Int)=((x*y:Nat):Int):=by simp
 rw [em] at MX
 have qb:=qf_bound hm
 have hqc:qc (x*y)=if (x*y) % 60=0 then qf (x*y) else qf (x*y)+1:=rfl
 have DX:=fun w1=>div64_calls ((x*y:Nat):Int) 60 (by omega) (by omega) (by omega) w1
 rw [show ((x*y:Nat):Int).tdiv 60=((qf (x*y):Nat):Int) from tdiv_nat rfl rfl,show ((x*y:Nat):Int).tmod 60=((x*y % 60:Nat):Int) from tmod_natO rfl rfl] at DX
 clear em
 generalize qf (x*y)=a at *
 generalize qc (x*y)=b at *
 have hr:x*y % 60<60:=Nat.mod_lt _ (by omega)
 generalize x*y % 60=r at *
 generalize x*y=m at *
 by_cases h0:r=0
 · rw [if_pos h0] at hqc
   subst hqc
   refine enterQ (c:=cx w 64) Tryz.func141 rfl rfl rfl rfl ?_
   ((all_goals refine goK0e ?_);(all_goals constructor);(any_goals exact trivial);all_goals intros)
   all_goals first|rfl|(exfalso;simp_all;omega)
 · rw [if_neg h0] at hqc
   subst hqc
   refine enterQ (c:=cx w 64) Tryz.func141 rfl rfl rfl rfl ?_
   ((all_goals refine goK0e ?_);(all_goals constructor);(any_goals exact trivial);all_goals intros)
   all_goals first|rfl|(exfalso;simp_all;omega)
def prN (a b c d:Nat) (k:Nat):Nat:=(if k % 2=1 then b else a)*(if k / 2 % 2=1 then d else c)
def aL (a b c d:Nat):Nat→Nat
 | 0=>qf (a*c)
 | k+1=>min (aL a b c d k) (qf (prN a b c d k))
def aH (a b c d:Nat):Nat→Nat
 | 0=>qc (a*c)
 | k+1=>max (aH a b c d k) (qc (prN a b c d k))
theorem prN_bound {a b c d k:Nat} (hab:a≤b) (hb:b≤10000000) (hcd:c≤d) (hd:d≤1000000):prN a b c d k≤10000000000000:=by
 unfold prN
 have h1:(if k % 2=1 then b else a)≤10000000:=by split<;>omega
 have h2:(if k / 2 % 2=1 then d else c)≤1000000:=by split<;>omega
 exact Nat.le_trans (Nat.mul_le_mul h1 h2) (by decide)
theorem a_bound {a b c d:Nat} (hab:a≤b) (hb:b≤10000000) (hcd:c≤d) (hd:d≤1000000):∀ k,aL a b c d k≤166666666667∧aH a b c d k≤166666666667
 | 0=>by
   have:=qf_bound (m:=a*c) (Nat.le_trans (Nat.mul_le_mul (show a≤10000000 by omega) (show c≤1000000 by omega)) (by decide))
   unfold aL aH;omega
 | k+1=>by
   have:=a_bound hab hb hcd hd k
   have:=qf_bound (prN_bound (k:=k) hab hb hcd hd)
   unfold aL aH;omega
def tLo (m:Nat) (r:Int×Int):Nat:=10*m / r.2.toNat
def tHi (m:Nat) (r:Int×Int):Nat:=(10*m+r.1.toNat-1) / r.1.toNat
def hullT (m:Nat):List (Int×Int)→Nat×Nat
 | []=>(0,0)
 | r::l=>l.foldl (fun a r=>(min a.1 (tLo m r),max a.2 (tHi m r))) (tLo m r,tHi m r)
theorem hullT_one (m:Nat) (r:Int×Int):hullT m [r]=(tLo m r,tHi m r):=rfl
theorem hullT_snoc {m:Nat} {l:List (Int×Int)} (h:l≠[]) (r:Int×Int):hullT m (l++[r])=(min (hullT m l).1 (tLo m r),max (hullT m l).2 (tHi m r)):=by
 cases l with
 | nil=>exact absurd rfl h
 | cons a l=>simp only [List.cons_append,hullT,List.foldl_append,List.foldl_cons,List.foldl_nil]
def RtOk (r:Int×Int):Prop:=1≤r.1∧r.1≤r.2∧r.2≤5001
theorem tb {m:Nat} {r:Int×Int} (h:RtOk r) (hm:m≤1000000):tLo m r≤tHi m r∧tHi m r≤10*m:=by
 obtain ⟨h1,h2,h3⟩:=h
 unfold tLo tHi
 obtain ⟨s,hs⟩:∃ s,r.1.toNat=s:=⟨_,rfl⟩
 obtain ⟨f,hf⟩:∃ s,r.2.toNat=s:=⟨_,rfl⟩
 rw [hs,hf]
 have hs1:1≤s:=by omega
 have hsf:s≤f:=by omega
 constructor
 · refine Nat.le_trans (Nat.div_le_div_left hsf (by omega)) (Nat.div_le_div_right (by omega))
 · refine Nat.le_of_lt_succ (Nat.div_lt_of_lt_mul ?_)
   have:10*m+s≤s*(10*m+1):=by
     rw [Nat.mul_add,Nat.mul_one]
     have:=Nat.mul_le_mul hs1 (Nat.le_refl (10*m))
     omega
   show 10*m+s-1<s*(10*m+1)
   omega
theorem hullT_bound {m:Nat} (hm:m≤1000000):∀ (l:List (Int×Int)),(∀ r∈l,RtOk r)→(hullT m l).1≤(hullT m l).2∧(hullT m l).2≤10*m
 | [],_=>⟨Nat.le_refl _,Nat.zero_le _⟩
 | a::l,h=>by
   have key:∀ (l:List (Int×Int)) (z:Nat×Nat),(∀ r∈l,RtOk r)→z.1≤z.2∧z.2≤10*m→(l.foldl (fun a r=>(min a.1 (tLo m r),max a.2 (tHi m r))) z).1≤(l.foldl (fun a r=>(min a.1 (tLo m r),max a.2 (tHi m r))) z).2∧(l.foldl (fun a r=>(min a.1 (tLo m r),max a.2 (tHi m r))) z).2≤10*m:=by
     intro l
     induction l with
     | nil=>intro z _ hz;exact hz
     | cons b l ih=>
       intro z hb hz
       have:=tb (hb b (List.mem_cons_self ..)) hm
       exact ih _ (fun r hr=>hb r (List.mem_cons_of_mem _ hr)) ⟨by simp only;omega,by simp only;omega⟩
   exact key l _ (fun r hr=>h r (List.mem_cons_of_mem _ hr)) (tb (h a (List.mem_cons_self ..)) hm)
noncomputable def legR (v q1 q2 q3 h x y:Int) (bk:Bool) (L:List Wn):List (Int×Int):=
 if q3<upV q1 q2 h then [] else ratesV v (upV q1 q2 h) (turnX bk x) (turnX bk y) L
def partV (R:List (Int×Int)) (m g0 g1:Nat):Value:=
 if R=[] then .tuple #[.agg #[.int .i64 0,.int .i64 0],.agg #[.int .i64 0,.int .i64 0],.bool false] else
 .tuple #[.agg #[.int .i64 ((hullT m R).1:Nat),.int .i64 ((hullT m R).2:Nat)],.agg #[.int .i64 (aL (hullT m R).1 (hullT m R).2 g0 g1 8:Nat),.int .i64 (aH (hullT m R).1 (hullT m R).2 g0 g1 8:Nat)],.bool true]
theorem turn_way {x y:Int} (h:WayIn x y) (bk:Bool):WayIn (turnX bk x) (turnX bk y):=by
 cases bk
 · exact h
 · exact h.neg
noncomputable def lengthR (m:Nat) (L:List Lg) (i:Int):Int×Int:=
 if chartB m L then (if 0≤i∧i≤(L.length:Int)-1 then (match L[i.toNat]? with|some z=>(lenV z.x z.y,0)|none=>(0,2)) else (0,2)) else (0,61)
theorem lengthR_in {m:Nat} {L:List Lg} {j:Nat} {z:Lg} (h:chartB m L=true) (hz:L[j]?=some z):lengthR m L (j:Int)=(lenV z.x z.y,0):=by
 have:=(List.getElem?_eq_some_iff.1 hz).1
 unfold lengthR
 rw [if_pos h,if_pos (by omega),Int.toNat_natCast,hz]
theorem lengthR_out {m:Nat} {L:List Lg} {i:Int} (h:chartB m L=true) (hi:¬ (0≤i∧i≤(L.length:Int)-1)):lengthR m L i=(0,2):=by
 unfold lengthR
 rw [if_pos h,if_neg hi]
theorem lengthR_bad {m:Nat} {L:List Lg} {i:Int} (h:chartB m L=false):lengthR m L i=(0,61):=by
 unfold lengthR
 rw [h];rfl
theorem routeLength_calls (AM A:Option Addr) (m cM n cp:Nat) (L:List Lg) (w:World) (hr:RdS w 5 A n (L.map lgCells)) (hn:n≤1000000) (hm:m≤1000000) (i:Int):Calls Tryz.prog 44 #[.agg #[.slice AM m cM,.slice A n cp],.int .i64 i] w fun e w'=>e=.returned (.tuple #[.int .i64 (lengthR m L i).1,.int .i64 (lengthR m L i).2])∧Ext w w':=by
 have hl:L.length=n:=by simpa using hr.len
 have HC:=fun w1 (hx:Ext w w1)=>checkChart_calls AM A m cM n cp L w1 (hr.ext hx) hn hm
 cases hb:chartB m L with
 | false=>
   rw [hb] at HC
   rw [lengthR_bad hb]
   refine enterQ (c:=cx w 26) Tryz.func44 rfl rfl rfl rfl ?_
   ((all_goals refine gqH1 ?_);(all_goals constructor);(any_goals exact trivial);all_goals intros)
   all_goals rfl
 | true=>
 rw [hb] at HC
 by_cases hi:0≤i∧i≤(n:Int)-1
 · obtain ⟨j,rfl⟩:=Int.eq_ofNat_of_zero_le hi.1
   obtain ⟨b,o,z,rfl,_,hz,c0,c1,c2,c3,c4⟩:=lg_read hr (show j<n by omega)
   have hk:=(chartB_iff.1 hb).2.2 z (List.mem_of_getElem? hz)
   obtain ⟨_,_,_,kx,ky,_,_⟩:=hk
   have HL:=fun w1=>length_calls z.a z.b z.x z.y z.h kx ky w1
   rw [lengthR_in hb hz]
   refine enterQ (c:=cx w 26) Tryz.func44 rfl rfl rfl rfl ?_
   ((all_goals refine gqH1 ?_);(all_goals constructor);(any_goals exact trivial);all_goals intros)
   all_goals rfl
 · rw [lengthR_out hb (by omega)]
   refine enterQ (c:=cx w 26) Tryz.func44 rfl rfl rfl rfl ?_
   ((all_goals refine gqH1 ?_);(all_goals constructor);(any_goals exact trivial);all_goals intros)
   all_goals rfl
theorem lenV_bound {x y:Int} (hx : -7000≤x∧x≤7000) (hy : -7000≤y∧y≤7000):0≤lenV x y∧lenV x y≤1000000:=by
 have b1:=mul_abs (x:=x) (y:=x) (a:=7000) (b:=7000) (by omega) (by omega)
 have b2:=mul_abs (x:=y) (y:=y) (a:=7000) (b:=7000) (by omega) (by omega)
 have c1:=sq_nn x
 have c2:=sq_nn y
 unfold lenV rootV
 obtain ⟨N,hN⟩:∃ N,10000*(x*x+y*y)=N:=⟨_,rfl⟩
 rw [hN]
 have hN0:0≤N∧N≤980000000000:=by omega
 have f1:fineS (N,N)=true:=(fineS_iff _).2 ⟨Int.le_refl _,by show _≤N;omega,by show N≤_;omega⟩
 rw [if_pos f1,if_neg (by omega)]
 obtain ⟨r1,r2,r3⟩:=rt_spec N hN0.1
 have r4:rt N≤999998:=sq_bound r1 (by omega) (by omega)
 simp only
 split<;>omega
def askE (m:Nat) (L:List Lg) (v q1 q2 q3 q4 g0 g1:Int) (C:List Wn):Int:=if chartB m L then (if paceB v q1 q2 q3 q4 g0 g1 then castE C else 62) else 61
noncomputable def legRz (v q1 q2 q3:Int) (z:Lg) (bk:Bool) (C:List Wn):List (Int×Int):=legR v q1 q2 q3 z.h z.x z.y bk C
def no3 (e:Int):Value:=.tuple #[.agg #[.int .i64 0,.int .i64 0],.agg #[.int .i64 0,.int .i64 0],.int .i64 e]
def fullV (R:List (Int×Int)) (m g0 g1:Nat):Value:=
 if R=[] then no3 63 else .tuple #[.agg #[.int .i64 ((hullT m R).1:Nat),.int .i64 ((hullT m R).2:Nat)],.agg #[.int .i64 (aL (hullT m R).1 (hullT m R).2 g0 g1 8:Nat),.int .i64 (aH (hullT m R).1 (hullT m R).2 g0 g1 8:Nat)],.int .i64 0]
noncomputable def partR (m:Nat) (L:List Lg) (v q1 q2 q3 q4 g0 g1:Int) (C:List Wn) (i:Int) (bk:Bool) (me:Int):Value:=
 if askE m L v q1 q2 q3 q4 g0 g1 C=0 then (if 0≤i∧i≤(L.length:Int)-1 then (match L[i.toNat]? with
   | some z=>if 0≤me∧me≤lenV z.x z.y then fullV (legRz v q1 q2 q3 z bk C) me.toNat g0.toNat g1.toNat else no3 2
   | none=>no3 2) else no3 2) else no3 (askE m L v q1 q2 q3 q4 g0 g1 C)
end Go.Proofs.YtcjkndjjbjoehaaGreat
namespace Go.Proofs.YtcjkndjjbjoehaaGreat
def arcOf (cst:Lg→Bool→Int) (i:Nat) (z:Lg) (t:Nat):Option (Nat×Nat×Int):=
 if z.a=(i:Int) then (if 0≤cst z false then some (t,z.b.toNat,cst z false) else none)
 else if z.b=(i:Int) then (if 0≤cst z true then some (t,z.a.toNat,cst z true) else none) else none
def arcT (cst:Lg→Bool→Int) (L:List Lg) (i t:Nat):Option (Nat×Nat×Int):=(L[t]?).bind fun z=>arcOf cst i z t
def arcs (cst:Lg→Bool→Int) (L:List Lg):Arcs:=fun i=>(List.range L.length).filterMap (arcT cst L i)
theorem arcT_some {cst:Lg→Bool→Int} {L:List Lg} {i t:Nat} {x:Nat×Nat×Int} (h:arcT cst L i t=some x):x.1=t∧∃ z,L[t]?=some z∧0≤x.2.2∧((z.a=(i:Int)∧x=(t,z.b.toNat,cst z false))∨(z.b=(i:Int)∧x=(t,z.a.toNat,cst z true))):=by
 unfold arcT at h
 cases hz:L[t]? with
 | none=>rw [hz] at h;cases h
 | some z=>
   rw [hz] at h
   simp only [Option.bind_some] at h
   unfold arcOf at h
   split at h
   · rename_i ha
     split at h
     · rename_i hc
       obtain rfl:=Option.some.inj h
       exact ⟨rfl,z,rfl,hc,.inl ⟨ha,rfl⟩⟩
     · cases h
   · split at h
     · rename_i hb
       split at h
       · rename_i hc
         obtain rfl:=Option.some.inj h
         exact ⟨rfl,z,rfl,hc,.inr ⟨hb,rfl⟩⟩
       · cases h
     · cases h
theorem arcs_mem {cst:Lg→Bool→Int} {L:List Lg} {i:Nat} {x:Nat×Nat×Int} (h:x∈arcs cst L i):arcT cst L i x.1=some x:=by
 obtain ⟨t,_,ht⟩:=List.mem_filterMap.1 h
 rw [(arcT_some ht).1];exact ht
theorem arcs_net {cst:Lg→Bool→Int} {L:List Lg} {m:Nat} (hL:∀ z∈L,LegOk m z):Net (arcs cst L) m:=by
 refine ⟨fun i x hx=>?_,fun i x hx=>?_,fun i x y hx hy e=>?_⟩
 · obtain ⟨_,z,hz,_,h⟩:=arcT_some (arcs_mem hx)
   obtain ⟨h1,h2,_⟩:=hL z (List.mem_of_getElem? hz)
   rcases h with ⟨_,e⟩|⟨_,e⟩<;>rw [e]<;>simp only<;>omega
 · obtain ⟨_,z,hz,h0,_⟩:=arcT_some (arcs_mem hx)
   exact h0
 · have h1:=arcs_mem hx
   have h2:=arcs_mem hy
   rw [e,h2] at h1
   exact (Option.some.inj h1).symm
theorem arcs_sorted (cst:Lg→Bool→Int) (L:List Lg):SortedA (arcs cst L):=fun i=>by
 unfold arcs
 rw [List.pairwise_filterMap]
 refine List.pairwise_lt_range.imp fun {a b} hab x hx y hy=>?_
 have h1:=(arcT_some hx).1
 have h2:=(arcT_some hy).1
 omega
noncomputable def legC (v q1 q2 q3:Int) (g0 g1:Nat) (C:List Wn) (z:Lg) (bk:Bool):Int:=
 if legRz v q1 q2 q3 z bk C=[] then -1 else ((aH (hullT (lenV z.x z.y).toNat (legRz v q1 q2 q3 z bk C)).1 (hullT (lenV z.x z.y).toNat (legRz v q1 q2 q3 z bk C)).2 g0 g1 8:Nat):Int)
end Go.Proofs.YtcjkndjjbjoehaaGreat
namespace Go.Proofs.YtcjkndjjbjoehaaGreat
open Go.ChangeShapes Go.WideShapes Go.ChangeAt Go.RowKit
inductive Lf where
 | int (k:IntKind)
 | bool
def LfOk:Lf→Value→Prop
 | .int k,v=>∃ z,v=.int k z∧(Lit.int k z).wf=true
 | .bool,v=>∃ b,v=.bool b
def LfsOk:List Lf→List Value→Prop
 | [],[]=>True
 | k::ks,v::vs=>LfOk k v∧LfsOk ks vs
 | _,_=>False
theorem LfsOk.len:∀ {ks:List Lf} {vs:List Value},LfsOk ks vs→vs.length=ks.length
 | [],[],_=>rfl
 | k::ks,v::vs,h=>by simp [LfsOk.len h.2]
 | [],_::_,h=>h.elim
 | _::_,[],h=>h.elim
theorem LfsOk.nil {vs:List Value} (h:LfsOk [] vs):vs=[]:=by cases vs with|nil=>rfl|cons _ _=>exact h.elim
theorem LfsOk.int {k:IntKind} {ks:List Lf} {vs:List Value} (h:LfsOk (.int k::ks) vs):∃ z us,vs=.int k z::us∧(Lit.int k z).wf=true∧LfsOk ks us:=by
 cases vs with
 | nil=>exact h.elim
 | cons v vs=>obtain ⟨⟨z,rfl,hw⟩,h2⟩:=h;exact ⟨z,vs,rfl,hw,h2⟩
theorem LfsOk.bool {ks:List Lf} {vs:List Value} (h:LfsOk (.bool::ks) vs):∃ b us,vs=.bool b::us∧LfsOk ks us:=by
 cases vs with
 | nil=>exact h.elim
 | cons v vs=>obtain ⟨⟨z,rfl⟩,h2⟩:=h;exact ⟨z,vs,rfl,h2⟩
theorem LfsOk.append:∀ {ks ls:List Lf} {vs us:List Value},LfsOk ks vs→LfsOk ls us→LfsOk (ks++ls) (vs++us)
 | [],_,[],_,_,h=>h
 | _::_,_,_::_,_,h,k=>⟨h.1,LfsOk.append h.2 k⟩
 | [],_,_::_,_,h,_=>h.elim
 | _::_,_,[],_,h,_=>h.elim
def ksFs (P:Program) (rec_:TypeId→Option (List Lf)):List Field→Nat→Option (List Lf)
 | [],_=>some []
 | f::fs,o=>match Nat.beq f.offset o,rec_ f.type,ksFs P rec_ fs (o+P.cellsOf f.type) with
   | true,some ks,some ls=>match Nat.beq (P.cellsOf f.type) ks.length with
     | true=>some (ks++ls)
     | false=>none
   | _,_,_=>none
def ksOf (P:Program):Nat→TypeId→Option (List Lf)
 | 0,_=>none
 | n+1,t=>match P.underlying t with
   | some (.int k)=>some [.int k]
   | some .bool=>some [.bool]
   | some (.struct fs)=>match ksFs P (ksOf P n) fs.toList 0 with
     | some ks=>match Nat.beq (P.cellsOf t) ks.length with
       | true=>some ks
       | false=>none
     | none=>none
   | _=>none
section
variable {H:Type} {enc:TypeId×Value→H} {P:Program} {W:World} {base:Nat} {spare:Nat→Bool} {held:Bool}
theorem ksFs_ok {rec_:TypeId→Option (List Lf)} {m:Nat} (hr:∀ {t:TypeId} {ks:List Lf} {cs:List Value} {x:DataW H×List MemPlace},rec_ t=some ks→DataW.trod enc P W base spare held m t cs=some x→LfsOk ks cs) {cs:List Value} :
   ∀ {fs:List Field} {o:Nat} {ks:List Lf},ksFs P rec_ fs o=some ks→(∀ f∈fs,∃ y,DataW.trod enc P W base spare held m f.type ((cs.drop f.offset).take (P.cellsOf f.type))=some y)→o+ks.length≤cs.length→LfsOk ks ((cs.drop o).take ks.length)
 | [],o,ks,h,_,_=>by
   obtain rfl:=Option.some.inj h
   simp [LfsOk]
 | f::fs,o,ks,h,hy,hl=>by
   unfold ksFs at h
   split at h
   · rename_i k1 l1 h1 h2 h3
     split at h
     · rename_i h4
       obtain rfl:=Option.some.inj h
       have ho:=Nat.eq_of_beq_eq_true h1
       have hc:=Nat.eq_of_beq_eq_true h4
       obtain ⟨y,hy0⟩:=hy f (List.mem_cons_self ..)
       rw [ho,hc] at hy0
       have a1:=hr h2 hy0
       rw [hc] at h3
       simp only [List.length_append] at hl
       have a2:=ksFs_ok hr h3 (fun g hg=>hy g (List.mem_cons_of_mem _ hg)) (by omega)
       have e:(cs.drop o).take (k1++l1).length=(cs.drop o).take k1.length++(cs.drop (o+k1.length)).take l1.length:=by
         rw [List.length_append,List.take_add,List.drop_drop]
       rw [e]
       exact a1.append a2
     · cases h
   · cases h
theorem ksOf_ok:∀ {n:Nat} {t:TypeId} {ks:List Lf} {m:Nat} {cs:List Value} {x:DataW H×List MemPlace},ksOf P n t=some ks→DataW.trod enc P W base spare held m t cs=some x→LfsOk ks cs
 | 0,_,_,_,_,_,h,_=>by cases h
 | n+1,t,ks,m,cs,x,h,hx=>by
   unfold ksOf at h
   split at h
   · rename_i k hu
     obtain rfl:=Option.some.inj h
     obtain ⟨z,rfl,_,hw⟩:=DataW.trod_int hu hx
     exact ⟨⟨z,rfl,hw⟩,trivial⟩
   · rename_i hu
     obtain rfl:=Option.some.inj h
     obtain ⟨b,rfl,_⟩:=DataW.trod_bool hu hx
     exact ⟨⟨b,rfl⟩,trivial⟩
   · rename_i fs hu
     split at h
     · rename_i ks' hk
       split at h
       · rename_i hc
         obtain rfl:=Option.some.inj h
         have hc:=Nat.eq_of_beq_eq_true hc
         obtain ⟨xs,k,_,_,hl,hlen,hf⟩:=DataW.trod_struct hu hx
         have:=ksFs_ok (m:=k) (cs:=cs) (fun h1 h2=>ksOf_ok h1 h2) hk (fun f hfm=>by
           obtain ⟨i,hi,hif⟩:=List.getElem_of_mem hfm
           have hi':i<fs.size:=by simpa using hi
           have e:=hf i f (by rw [Array.getElem?_eq_getElem hi'];simpa using hif)
           rw [List.getElem?_eq_getElem (by omega)] at e
           exact ⟨_,e⟩) (by omega)
         rw [List.drop_zero,List.take_of_length_le (by omega)] at this
         exact this
       · cases h
     · cases h
   · cases h
theorem open_struct {r:Reach} {b0:Nat} {t:TypeId} {fs:Array Field} {n:Nat} {ks:List Lf} {v:Value} {d:DataW H} {p:List MemPlace} (hs:P.underlying t=some (.struct fs)) (hk:ksOf P n t=some ks)
   (hv:Value.okWide P W r b0 t v) (h:DataW.Trod enc P W base spare held t v d p):∃ cs,v=.agg ⟨cs⟩∧LfsOk ks cs:=by
 obtain ⟨cs,rfl,_⟩:=okWide_struct hs hv
 obtain ⟨fuel,hf⟩:=h
 obtain ⟨cs⟩:=cs
 exact ⟨cs,rfl,ksOf_ok hk hf⟩
theorem open_rows {r:Reach} {b0:Nat} {t e:TypeId} {n:Nat} {ks:List Lf} {v:Value} {d:DataW H} {p:List MemPlace} (hs:P.underlying t=some (.slice e)) (hk:ksOf P n e=some ks) (hc:P.cellsOf e=ks.length) (hpos:0<ks.length)
   (hv:Value.okWide P W r b0 t v) (h:DataW.Trod enc P W 0 (fun _=>true) held t v d p) :
   ∃ (A:Option Addr) (m c:Nat) (rows:List (List Value)),v=.slice A m c∧RdS W ks.length A m rows∧∀ x∈rows,LfsOk ks x:=by
 obtain ⟨A,m,c,rfl⟩:=okWide_slice hs hv
 obtain ⟨fuel,hf⟩:=h
 refine ⟨A,m,c,?_⟩
 rcases Go.Deep.open_slice hs hf with ⟨h1,_⟩|⟨a,len,cap,m',k,D,Pl,h1,_,hlc,_,hm,_,hi⟩
 · simp only [Value.cells,List.cons.injEq,Value.slice.injEq,and_true] at h1
   obtain ⟨rfl,rfl,rfl⟩:=h1
   exact ⟨[],rfl,RdS.nil _ _ _,fun x hx=>(List.not_mem_nil hx).elim⟩
 · simp only [Value.cells,List.cons.injEq,Value.slice.injEq,and_true] at h1
   obtain ⟨rfl,rfl,rfl⟩:=h1
   simp only [if_true] at hm
   subst hm
   rw [hc] at hi
   have key:∀ i,i<m→∃ y:List Value,LfsOk ks y∧∀ j u,y[j]?=some u→W.cell? ((a.add (i*ks.length)).add j)=some u:=fun i hin=>by
     obtain ⟨cs,hc,ht⟩:=hi i (by omega)
     obtain ⟨_,hlc,hat⟩:=World.cells?_some hc
     exact ⟨cs,ksOf_ok hk ht,fun j u hu=>by rw [hat j (by rw [← hlc];exact (List.getElem?_eq_some_iff.1 hu).1)];exact hu⟩
   let f:Nat→List Value:=fun i=>if h:i<m then Classical.choose (key i h) else []
   have hfk:∀ i,i<m→LfsOk ks (f i)∧∀ j u,(f i)[j]?=some u→W.cell? ((a.add (i*ks.length)).add j)=some u:=fun i hin=>by
     simp only [f,dif_pos hin]
     exact Classical.choose_spec (key i hin)
   have hmem:∀ x∈(List.range m).map f,LfsOk ks x:=fun x hx=>by
     obtain ⟨i,hi,rfl⟩:=List.mem_map.1 hx
     exact (hfk i (List.mem_range.1 hi)).1
   refine ⟨(List.range m).map f,rfl,⟨by simp,fun h0=>?_⟩,hmem⟩
   have l0:=(hfk 0 h0).1.len
   have c0:=(hfk 0 h0).2 0 _ (List.getElem?_eq_getElem (by omega))
   obtain ⟨b,o,sp⟩:=a
   have hsp:sp=none:=by simpa [Addr.add] using World.cell?_spot c0
   subst hsp
   refine ⟨b,o,rfl,by simpa [Addr.add] using cell_lt c0,fun i x hx=>⟨(hmem x (List.mem_of_getElem? hx)).len,fun j u hu=>?_⟩⟩
   rw [List.getElem?_map,Option.map_eq_some_iff] at hx
   obtain ⟨i',h2,rfl⟩:=hx
   obtain ⟨h3,h4⟩:=List.getElem?_eq_some_iff.1 h2
   simp only [List.getElem_range,List.length_range] at h3 h4
   subst h4
   have:=(hfk i h3).2 j u hu
   rw [add_eq,add_eq] at this
   exact this
end
theorem rows_ofP {α:Type} {f:α→List Value} {p:α→Prop}:∀ {rows:List (List Value)},(∀ x∈rows,∃ y,x=f y∧p y)→∃ l:List α,rows=l.map f∧∀ y∈l,p y
 | [],_=>⟨[],rfl,fun y hy=>(List.not_mem_nil hy).elim⟩
 | x::rows,h=>by
   obtain ⟨y,rfl,hy⟩:=h x (List.mem_cons_self ..)
   obtain ⟨l,rfl,hl⟩:=rows_ofP (fun z hz=>h z (List.mem_cons_of_mem _ hz))
   exact ⟨y::l,rfl,fun z hz=>by rcases List.mem_cons.1 hz with rfl|hz;exact hy;exact hl z hz⟩
theorem open_cap {H:Type} {enc:TypeId×Value→H} {r:Reach} {P:Program} {W:World} {held:Bool} {t e:TypeId} {A:Option Addr} {m c:Nat} {d:DataW H} {p:List MemPlace} (hs:P.underlying t=some (.slice e))
   (h:DataW.Trod enc P W 0 (fun _=>true) held t (.slice A m c) d p):m≤c:=by
 obtain ⟨fuel,hf⟩:=h
 rcases Go.Deep.open_slice hs hf with ⟨h1,_⟩|⟨a,len,cap,m',k,D,Pl,h1,_,hlc,_⟩
 · simp only [Value.cells,List.cons.injEq,Value.slice.injEq,and_true] at h1
   omega
 · simp only [Value.cells,List.cons.injEq,Value.slice.injEq,and_true] at h1
   omega
theorem gl_open {x:List Value} (h:LfsOk [.int .i64,.int .i64,.int .i64,.int .i64,.int .i64,.int .i64] x):∃ y:Gl,x=glCells y∧True:=by
 obtain ⟨z0,u0,rfl,_,h⟩:=h.int
 obtain ⟨z1,u1,rfl,_,h⟩:=h.int
 obtain ⟨z2,u2,rfl,_,h⟩:=h.int
 obtain ⟨z3,u3,rfl,_,h⟩:=h.int
 obtain ⟨z4,u4,rfl,_,h⟩:=h.int
 obtain ⟨z5,u5,rfl,_,h⟩:=h.int
 obtain rfl:=h.nil
 exact ⟨⟨z0,z1,z2,z3,z4,z5⟩,rfl,trivial⟩
section
variable {H:Type} {enc:TypeId×Value→H} {P:Program} {W:World} {held:Bool}
theorem open_rowsT {t e:TypeId} {n fuel:Nat} {ks:List Lf} {cs:List Value} {x:DataW H×List MemPlace} (hs:P.underlying t=some (.slice e)) (hk:ksOf P n e=some ks) (hc:P.cellsOf e=ks.length) (hpos:0<ks.length)
   (hf:DataW.trod enc P W 0 (fun _=>true) held fuel t cs=some x) :
   ∃ (A:Option Addr) (m c:Nat) (rows:List (List Value)),cs=[.slice A m c]∧RdS W ks.length A m rows∧(A=none→m=0∧c=0)∧∀ x∈rows,LfsOk ks x:=by
 rcases Go.Deep.open_slice hs hf with ⟨h1,_⟩|⟨a,m,c,m',k,D,Pl,h1,_,hlc,_,hm,_,hi⟩
 · exact ⟨none,0,0,[],h1,RdS.nil _ _ _,fun _=>⟨rfl,rfl⟩,fun x hx=>(List.not_mem_nil hx).elim⟩
 · simp only [if_true] at hm
   subst hm
   rw [hc] at hi
   have key:∀ i,i<m→∃ y:List Value,LfsOk ks y∧∀ j u,y[j]?=some u→W.cell? ((a.add (i*ks.length)).add j)=some u:=fun i hin=>by
     obtain ⟨cs,hc,ht⟩:=hi i (by omega)
     obtain ⟨_,hlc,hat⟩:=World.cells?_some hc
     exact ⟨cs,ksOf_ok hk ht,fun j u hu=>by rw [hat j (by rw [← hlc];exact (List.getElem?_eq_some_iff.1 hu).1)];exact hu⟩
   let f:Nat→List Value:=fun i=>if h:i<m then Classical.choose (key i h) else []
   have hfk:∀ i,i<m→LfsOk ks (f i)∧∀ j u,(f i)[j]?=some u→W.cell? ((a.add (i*ks.length)).add j)=some u:=fun i hin=>by
     simp only [f,dif_pos hin]
     exact Classical.choose_spec (key i hin)
   have hmem:∀ x∈(List.range m).map f,LfsOk ks x:=fun x hx=>by
     obtain ⟨i,hi,rfl⟩:=List.mem_map.1 hx
     exact (hfk i (List.mem_range.1 hi)).1
   refine ⟨some a,m,_,(List.range m).map f,h1,⟨by simp,fun h0=>?_⟩,fun h=>(by cases h),hmem⟩
   have l0:=(hfk 0 h0).1.len
   have c0:=(hfk 0 h0).2 0 _ (List.getElem?_eq_getElem (by omega))
   obtain ⟨b,o,sp⟩:=a
   have hsp:sp=none:=by simpa [Addr.add] using World.cell?_spot c0
   subst hsp
   refine ⟨b,o,rfl,by simpa [Addr.add] using cell_lt c0,fun i x hx=>⟨(hmem x (List.mem_of_getElem? hx)).len,fun j u hu=>?_⟩⟩
   rw [List.getElem?_map,Option.map_eq_some_iff] at hx
   obtain ⟨i',h2,rfl⟩:=hx
   obtain ⟨h3,h4⟩:=List.getElem?_eq_some_iff.1 h2
   simp only [List.getElem_range,List.length_range] at h3 h4
   subst h4
   have:=(hfk i h3).2 j u hu
   rw [add_eq,add_eq] at this
   exact this
theorem sing {a b:Value} (h:[a]=[b]):a=b:=by simpa using h
end
def blCells (x:Bool):List Value:=[.bool x]
theorem list2 {l:List Value} (h:l.length=2):∃ a b,l=[a,b]:=by
 match l,h with
 | [a,b],_=>exact ⟨a,b,rfl⟩
theorem bl_openC {x:List Value} (h:LfsOk [.bool] x):∃ y:Bool,x=blCells y∧True:=by
 obtain ⟨z0,u0,rfl,h2⟩:=h.bool
 obtain rfl:=h2.nil
 exact ⟨z0,rfl,trivial⟩
theorem lg_openC {x:List Value} (h:LfsOk [.int .i64,.int .i64,.int .i64,.int .i64,.int .i64] x):∃ y:Lg,x=lgCells y∧True:=by
 obtain ⟨z0,u0,rfl,_,h⟩:=h.int
 obtain ⟨z1,u1,rfl,_,h⟩:=h.int
 obtain ⟨z2,u2,rfl,_,h⟩:=h.int
 obtain ⟨z3,u3,rfl,_,h⟩:=h.int
 obtain ⟨z4,u4,rfl,_,h⟩:=h.int
 obtain rfl:=h.nil
 exact ⟨⟨z0,z1,z2,z3,z4⟩,rfl,trivial⟩
section
variable {H:Type} {enc:TypeId×Value→H} {P:Program} {W:World} {held:Bool}
theorem open_chart {r:Reach} {b0:Nat} {v:Value} {d:DataW H} {p:List MemPlace} (hv:Value.okWide Tryz.prog W r b0 25 v) (h:DataW.Trod enc Tryz.prog W 0 (fun _=>true) held 25 v d p) :
   ∃ (B:List Bool) (L:List Lg) (A1:Option Addr) (n1 c1:Nat) (A2:Option Addr) (n2 c2:Nat),v=.agg ⟨[.slice A1 n1 c1,.slice A2 n2 c2]⟩∧RdS W 1 A1 n1 (B.map blCells)∧RdS W 5 A2 n2 (L.map lgCells):=by
 obtain ⟨cs,rfl,_⟩:=okWide_struct Tryz.underlying25 hv
 obtain ⟨fuel,hf⟩:=h
 obtain ⟨cs⟩:=cs
 have hf':DataW.trod enc Tryz.prog W 0 (fun _=>true) held fuel 25 cs=some (d,p):=hf
 obtain ⟨xs,k,_,_,hl,hlen,hx⟩:=DataW.trod_struct Tryz.underlying25 hf'
 have c37:Tryz.prog.cellsOf 25=2:=by kernel_rfl
 have c34:Tryz.prog.cellsOf 22=1:=by kernel_rfl
 have c35:Tryz.prog.cellsOf 23=1:=by kernel_rfl
 rw [c37] at hl
 obtain ⟨v0,v1,rfl⟩:=list2 hl
 have h3:xs.length=2:=hlen
 have g0:=hx 0 _ rfl
 have g1:=hx 1 _ rfl
 rw [List.getElem?_eq_getElem (by omega)] at g0 g1
 obtain ⟨A1,n1,cf1,rows1,e1,hr1,hn1,hm1⟩:=open_rowsT Tryz.underlying22 (show ksOf Tryz.prog 6 4=some [.bool] by kernel_rfl) (by kernel_rfl) (by decide) g0
 obtain ⟨A2,n2,cf2,rows2,e2,hr2,hn2,hm2⟩:=open_rowsT Tryz.underlying23 (show ksOf Tryz.prog 6 78=some [.int .i64,.int .i64,.int .i64,.int .i64,.int .i64] by kernel_rfl) (by kernel_rfl) (by decide) g1
 obtain ⟨l1,rfl,hp1⟩:=rows_ofP (f:=blCells) (p:=fun _=>True) (fun x hx=>bl_openC (hm1 x hx))
 obtain ⟨l2,rfl,hp2⟩:=rows_ofP (f:=lgCells) (p:=fun _=>True) (fun x hx=>lg_openC (hm2 x hx))
 have e1':[v0]=[.slice A1 n1 cf1]:=e1
 have e2':[v1]=[.slice A2 n2 cf2]:=e2
 clear e1 e2 g0 g1
 obtain rfl:=sing e1'
 obtain rfl:=sing e2'
 exact ⟨l1,l2,A1,n1,cf1,A2,n2,cf2,rfl,hr1,hr2⟩
theorem open_capT {t e:TypeId} {fuel:Nat} {A:Option Addr} {m c:Nat} {x:DataW H×List MemPlace} (hs:P.underlying t=some (.slice e))
   (hf:DataW.trod enc P W 0 (fun _=>true) held fuel t [.slice A m c]=some x):m≤c:=by
 rcases Go.Deep.open_slice hs hf with ⟨h1,_⟩|⟨a,len,cap,m',k,D,Pl,h1,_,hlc,_⟩
 · simp only [List.cons.injEq,Value.slice.injEq,and_true] at h1
   omega
 · simp only [List.cons.injEq,Value.slice.injEq,and_true] at h1
   omega
theorem open_cast {r:Reach} {b0:Nat} {v:Value} {d:DataW H} {p:List MemPlace} (hv:Value.okWide Tryz.prog W r b0 30 v) (h:DataW.Trod enc Tryz.prog W 0 (fun _=>true) held 30 v d p) :
   ∃ (A:Option Addr) (m c:Nat) (L:List Wn),v=.slice A m c∧CastR W A m L:=by
 obtain ⟨A,m,c,rfl⟩:=okWide_slice Tryz.underlying30 hv
 obtain ⟨fuel,hf⟩:=h
 refine ⟨A,m,c,?_⟩
 rcases Go.Deep.open_slice Tryz.underlying30 hf with ⟨h1,_⟩|⟨a,len,cap,m',k,D,Pl,h1,_,hlc,_,hm,_,hi⟩
 · simp only [Value.cells,List.cons.injEq,Value.slice.injEq,and_true] at h1
   obtain ⟨rfl,rfl,rfl⟩:=h1
   exact ⟨[],rfl,⟨RdS.nil _ _ _,fun x hx=>(List.not_mem_nil hx).elim⟩⟩
 · simp only [Value.cells,List.cons.injEq,Value.slice.injEq,and_true] at h1
   obtain ⟨rfl,rfl,rfl⟩:=h1
   simp only [if_true] at hm
   subst hm
   have c59:Tryz.prog.cellsOf 84=1:=by kernel_rfl
   rw [c59] at hi
   have key:∀ i,i<m→∃ y:Wn,(RdS W 6 y.A y.n (y.l.map glCells)∧y.n≤y.c)∧W.cell? (a.add (i*1))=some (.slice y.A y.n y.c):=fun i hin=>by
     obtain ⟨cs,hc,ht⟩:=hi i (by omega)
     obtain ⟨_,hlc,hat⟩:=World.cells?_some hc
     obtain ⟨A1,n1,cf1,rows1,e1,hr1,hn1,hm1⟩:=open_rowsT Tryz.underlying84 (show ksOf Tryz.prog 6 164=some [.int .i64,.int .i64,.int .i64,.int .i64,.int .i64,.int .i64] by kernel_rfl) (by kernel_rfl) (by decide) ht
     obtain ⟨l1,rfl,hp1⟩:=rows_ofP (f:=glCells) (p:=fun _=>True) (fun x hx=>gl_open (hm1 x hx))
     subst e1
     have hcap:=open_capT Tryz.underlying84 ht
     refine ⟨⟨A1,n1,cf1,l1⟩,⟨hr1,hcap⟩,?_⟩
     have:=hat 0 (by omega)
     simpa [Addr.add] using this
   let f:Nat→Wn:=fun i=>if h:i<m then Classical.choose (key i h) else ⟨none,0,0,[]⟩
   have hfk:∀ i,i<m→(RdS W 6 (f i).A (f i).n ((f i).l.map glCells)∧(f i).n≤(f i).c)∧W.cell? (a.add (i*1))=some (.slice (f i).A (f i).n (f i).c):=fun i hin=>by
     simp only [f,dif_pos hin]
     exact Classical.choose_spec (key i hin)
   refine ⟨(List.range m).map f,rfl,⟨⟨by simp,fun h0=>?_⟩,fun x hx=>?_⟩⟩
   · have c0:=(hfk 0 h0).2
     obtain ⟨b,o,sp⟩:=a
     have hsp:sp=none:=by simpa [Addr.add] using World.cell?_spot c0
     subst hsp
     refine ⟨b,o,rfl,by simpa [Addr.add] using cell_lt c0,fun i x hx=>?_⟩
     rw [List.getElem?_map,List.getElem?_map] at hx
     by_cases him:i<m
     · have e1:(List.range m)[i]?=some i:=by rw [List.getElem?_eq_getElem (by simpa using him),List.getElem_range]
       rw [e1] at hx
       simp only [Option.map_some,Option.some.injEq] at hx
       subst hx
       refine ⟨rfl,fun j u hu=>?_⟩
       have hw:=(hfk i him).2
       rw [add_eq] at hw
       cases j with
       | zero=>
         simp only [wnCells,List.getElem?_cons_zero,Option.some.injEq] at hu
         subst hu
         exact hw
       | succ j=>simp [wnCells] at hu
     · have e1:(List.range m)[i]?=none:=by rw [List.getElem?_eq_none_iff];simpa using him
       rw [e1] at hx
       cases hx
   · obtain ⟨i,hi2,rfl⟩:=List.mem_map.1 hx
     exact (hfk i (List.mem_range.1 hi2)).1
end
end Go.Proofs.YtcjkndjjbjoehaaGreat
namespace Go.Proofs.YtcjkndjjbjoehaaGreat
open Go.RowKit
def fk (i:Int) (p:Bool):Value:=.agg #[.int .i64 i,.bool p]
theorem eq_bool4 {w:World} {d:Nat} {a b:Bool}:(Op.equalIn (d+1) 4 (.bool a) (.bool b)).run Tryz.prog w=.ok (a == b) w:=run_equalIn_bool' (P:=Tryz.prog) w d 4 a b Tryz.underlying4
theorem eqF_bool {w:World} {d o:Nat} {xs ys:List Value} {f:Field} {fs:List Field} {a b:Bool} {q:Bool} (hn:(f.name == "_")=false) (ht:f.type=4) (ho:f.offset=o) (hx:xs[o]?=some (.bool a)) (hy:ys[o]?=some (.bool b))
   (hr:(Op.eqFields (d+1) ⟨xs⟩ ⟨ys⟩ fs).run Tryz.prog w=.ok q w):(Op.eqFields (d+1) ⟨xs⟩ ⟨ys⟩ (f::fs)).run Tryz.prog w=.ok ((a == b) && q) w:=by
 rw [eqF_cons hn (by rw [ht,ho];exact part_cell (Tryz.isAgg4 w) hx) (by rw [ht,ho];exact part_cell (Tryz.isAgg4 w) hy) (by rw [ht];exact eq_bool4),hr]
 cases h:(a == b)<;>simp
theorem eq_flown {w:World} {d:Nat} {i j:Int} {p q:Bool}:(Op.equalIn (d+2) 153 (fk i p) (fk j q)).run Tryz.prog w=.ok (decide (i=j) && ((p == q) && true)) w:=by
 unfold fk
 rw [run_equalIn_struct w (d+1) 153 _ _ (by kernel_rfl) (by kernel_rfl)]
 simp only [Program.fieldsOf,Tryz.underlying153]
 exact eqF_int rfl rfl rfl rfl rfl (eqF_bool rfl rfl rfl rfl rfl eqF_nil)
theorem eq_fk {w:World} {i j:Int} {p q:Bool}:(Op.equal 153 (fk i p) (fk j q)).run Tryz.prog w=.ok (decide (i=j) && ((p == q) && true)) w:=eq_flown (d:=9998)
theorem ask_none {w:World} {i:Int} {p:Bool}:∀ (l:List MapEntry) (k:Nat),(∀ e∈l,∃ j q,e.key=fk j q∧¬ (i=j∧p=q))→(Instr.findAsking 153 (fk i p) l k).run Tryz.prog w=.ok none w
 | [],_,_=>by simp [Instr.findAsking,Sem.run_pure]
 | e::l,k,h=>by
   obtain ⟨j,q,h1,h2⟩:=h e (List.mem_cons_self ..)
   have hf:(decide (i=j) && ((p == q) && true))=false:=by
     cases hb:(decide (i=j) && ((p == q) && true)) with
     | false=>rfl
     | true=>simp at hb;exact absurd hb h2
   have ih:=ask_none (w:=w) (i:=i) (p:=p) l (k+1) (fun e he=>h e (List.mem_cons_of_mem _ he))
   simp only [Instr.findAsking,Sem.run_bind,h1,eq_fk,hf,Result.andThen,Bool.false_eq_true,if_false]
   exact ih
theorem ask_some {w:World} {i:Int} {p:Bool} {v:Value}:∀ (l:List MapEntry) (k j:Nat) (e:MapEntry),(∀ e∈l.take j,∃ j q,e.key=fk j q∧¬ (i=j∧p=q))→l[j]?=some e→e.key=fk i p→(Instr.findAsking 153 (fk i p) l k).run Tryz.prog w=.ok (some (k+j,e.val)) w
 | [],_,_,_,_,h,_=>by cases h
 | e::l,k,0,e',_,h,h1=>by
   obtain rfl:=Option.some.inj h
   simp only [Instr.findAsking,Sem.run_bind,h1,eq_fk,Result.andThen]
   simp [Sem.run_pure]
 | e::l,k,j+1,e',h0,h,h1=>by
   obtain ⟨j',q,h2,h3⟩:=h0 e (by simp)
   have hf:(decide (i=j') && ((p == q) && true))=false:=by
     cases hb:(decide (i=j') && ((p == q) && true)) with
     | false=>rfl
     | true=>simp at hb;exact absurd hb h3
   have ih:=ask_some (w:=w) (i:=i) (p:=p) (v:=v) l (k+1) j e' (fun e he=>h0 e (by simp only [List.take_succ_cons,List.mem_cons];exact .inr he)) (by simpa using h) h1
   simp only [Instr.findAsking,Sem.run_bind,h2,eq_fk,hf,Result.andThen,Bool.false_eq_true,if_false]
   rw [ih,show k+1+j=k+(j+1) by omega]
theorem findNow_struct {fs:Array Field} {i:Int} {p:Bool} (e:MapEntry) (l:List MapEntry) (he:∃ j q,e.key=fk j q):Instr.findNow (.struct fs) (fk i p) (e::l) 0=none:=by
 obtain ⟨j,q,h⟩:=he
 unfold Instr.findNow
 rw [h];rfl
theorem find_fk {w:World} {i:Int} {p:Bool} {l:List MapEntry} {r:Option (Nat×Value)} (hl:∀ e∈l,∃ j q,e.key=fk j q) (h:(Instr.findAsking 153 (fk i p) l 0).run Tryz.prog w=.ok r w) (h0:l=[]→r=none):(Instr.findKey 153 (fk i p) l).run Tryz.prog w=.ok r w:=by
 cases l with
 | nil=>
   rw [h0 rfl]
   simp [Instr.findKey,Instr.findNow,run_underlying Tryz.underlying153,Result.andThen,Sem.run_pure]
 | cons e l=>
   have hn:=fun fs=>findNow_struct (fs:=fs) (i:=i) (p:=p) e l (hl e (List.mem_cons_self ..))
   simp [Instr.findKey,run_underlying Tryz.underlying153,Result.andThen,Sem.run_bind,hn,h]
theorem check_fk {w:World} {i:Int} {p:Bool} (e:Bool) (n:Nat):(Instr.checkKey e (n+2) 153 (fk i p)).run Tryz.prog w=.ok () w:=by
 unfold fk
 have c3:∀ v w,(Instr.checkKey e (n+1) 3 v).run Tryz.prog w=.ok () w:=fun v w=>by
   unfold Instr.checkKey
   simp only [Sem.run_bind,run_underlying Tryz.underlying3,Result.andThen]
   cases v<;>rfl
 have c4:∀ v w,(Instr.checkKey e (n+1) 4 v).run Tryz.prog w=.ok () w:=fun v w=>by
   unfold Instr.checkKey
   simp only [Sem.run_bind,run_underlying Tryz.underlying4,Result.andThen]
   cases v<;>rfl
 have p3:(part 3 #[.int .i64 i,.bool p] 0).run Tryz.prog w=.ok (.int .i64 i) w:=part_cell (Tryz.isAgg3 w) rfl
 have p4:(part 4 #[.int .i64 i,.bool p] 1).run Tryz.prog w=.ok (.bool p) w:=part_cell (Tryz.isAgg4 w) rfl
 rw [Instr.checkKey]
 simp [Sem.run_bind,run_underlying Tryz.underlying153,Result.andThen,p3,p4,c3,c4,Sem.run_pure]
theorem zero199 {w:World}:(zeroValue 178).run Tryz.prog w=.ok (.slice none 0 0) w:=by
 have e:Tryz.t178.zero=some (.slice none 0 0):=by first|rfl|kernel_rfl
 simp [zeroValue,Sem.run_bind,run_underlying Tryz.underlying178,Result.andThen,Sem.run_pure,go_sem,e]
theorem update_fk {w:World} {b clock:Nat} {es:Array MapEntry} {i:Int} {p:Bool} {v:Value} (hb:w.heap[b]?=some (.map es clock)) (hk:∀ e∈es.toList,∃ j q,e.key=fk j q∧¬ (i=j∧p=q)) :
   (Instr.mapUpdate 170 (.map (some b)) (fk i p) v).run Tryz.prog w=.ok () { w with heap:=w.heap.setIfInBounds b (.map (es.push { key:=fk i p,val:=v,born:=clock }) (clock+1)) }:=by
 have hf:=find_fk (w:=w) (i:=i) (p:=p) (l:=es.toList) (fun e he=>by obtain ⟨j,q,h,_⟩:=hk e he;exact ⟨j,q,h⟩) (ask_none es.toList 0 hk) (fun _=>rfl)
 simp [Instr.mapUpdate,Sem.run_bind,run_underlying Tryz.underlying170,MapKept.run_getObj_map hb,check_fk (n:=9998),hf,MapKept.run_setObj_map _ hb,Result.andThen]
theorem lookup_none {w:World} {b clock:Nat} {es:Array MapEntry} {i:Int} {p:Bool} (hb:w.heap[b]?=some (.map es clock)) (hk:∀ e∈es.toList,∃ j q,e.key=fk j q∧¬ (i=j∧p=q)) :
   (Instr.lookup 170 (.map (some b)) (fk i p) false).run Tryz.prog w=.ok (.slice none 0 0) w:=by
 have hf:=find_fk (w:=w) (i:=i) (p:=p) (l:=es.toList) (fun e he=>by obtain ⟨j,q,h,_⟩:=hk e he;exact ⟨j,q,h⟩) (ask_none es.toList 0 hk) (fun _=>rfl)
 simp [Instr.lookup,Sem.run_bind,run_underlying Tryz.underlying170,MapKept.run_getObj_map hb,check_fk (n:=9998),hf,zero199,Result.andThen,Sem.run_pure]
theorem lookup_some {w:World} {b clock j:Nat} {es:Array MapEntry} {i:Int} {p:Bool} {e:MapEntry} (hb:w.heap[b]?=some (.map es clock)) (hl:∀ e∈es.toList,∃ j q,e.key=fk j q) (hk:∀ e∈es.toList.take j,∃ j q,e.key=fk j q∧¬ (i=j∧p=q)) (he:es.toList[j]?=some e) (hek:e.key=fk i p) :
   (Instr.lookup 170 (.map (some b)) (fk i p) false).run Tryz.prog w=.ok e.val w:=by
 have hf:=find_fk (w:=w) (i:=i) (p:=p) (l:=es.toList) hl (ask_some (v:=e.val) es.toList 0 j e hk he hek) (fun h=>by rw [h] at he;cases he)
 simp [Instr.lookup,Sem.run_bind,run_underlying Tryz.underlying170,MapKept.run_getObj_map hb,check_fk (n:=9998),hf,Result.andThen,Sem.run_pure]
end Go.Proofs.YtcjkndjjbjoehaaGreat
namespace Go.Proofs.YtcjkndjjbjoehaaGreat
open Go.RowKit
attribute [local irreducible] mapTg
theorem blk_map0 (w:World) (t:Nat):Blk (w.alloc (.map #[] 0)) w.heap.size [] (mapTg t []):=by
 refine Or.inr ⟨rfl,t,[],Eq.refl (mapTg t []),?_⟩
 refine ⟨#[],0,(MapKept.heap_alloc w _).1,?_⟩
 simp
section
variable {c:Cx} {F:Fr} {H H':Hp} {K:Value→Hp→Prop} {d:Option Tmp} {ty:TypeId} {pos:String} {af:Array Edge} {g:Option (Nat×Bool)} {t:TypeId} {x y z:Operand} {M:List Nat} {w:World} {N:Nat}
theorem ox_makeMap (k:∀ b,K (.map (some b)) ((b,[],mapTg t [])::H)):OX c ⟨d,.makeMap t none,ty,pos,af,g⟩ F H K:=by
 intro D a w ha hw
 have:(execOp a.eval ⟨d,.makeMap t none,ty,pos,af,g⟩).run c.P w=.ok (.value (.map (some w.heap.size))) (w.alloc (.map #[] 0)):=by
   simp [execOp,Sem.run_bind,Sem.run_pure,run_makeMap,Result.andThen]
 rw [this]
 exact ⟨⟨_,k w.heap.size,hw.fresh ((Ext.refl w).alloc _) (Nat.le_refl _) (blk_map0 w t)⟩,(Ext.refl w).alloc _⟩
def FkL (L:Mc):Prop:=∀ e∈L,∃ j q,decV e.1=fk j q
end
theorem Has.swapMap {w0:World} {M:Ms} {H:Hp} {w:World} {b:Nat} {C:List Value} {g g':Tg} {o:Obj} {es:Array MapEntry} {ck:Nat} (h:Has w0 M ((b,C,g)::H) w) (hb:w.heap[b]?=some (.map es ck)) (k:Blk { w with heap:=w.heap.setIfInBounds b o } b C g'):Has w0 M ((b,C,g')::H) { w with heap:=w.heap.setIfInBounds b o }:=by
 have hs:=MapKept.heap_set (o':=o) hb
 have hown:=(h.blk _ (List.mem_cons_self ..)).1
 have hnd:=h.nodup
 rw [List.map_cons,List.nodup_cons] at hnd
 refine ⟨⟨h.ext.os,h.ext.tape,h.ext.output,?_,fun i hi hm=>?_⟩,fun x hx=>?_,h.nodup,h.marks.1,fun k hk=>?_⟩
 · have:=h.ext.size;simpa using this
 · have hne:i≠b:=by
     rintro rfl
     rcases hown with e|e
     · simp only at e;omega
     · exact hm e
   exact (hs.2 i hne).trans (h.ext.block i hi hm)
 · rcases List.mem_cons.1 hx with rfl|hx
   · exact ⟨hown,k⟩
   · have hb':=h.blk x (List.mem_cons_of_mem _ hx)
     refine ⟨hb'.1,hb'.2.same (hs.2 _ fun e=>hnd.1 (List.mem_map.2 ⟨x,hx,e⟩))⟩
 · have hm:=h.marks.2 k hk
   refine ⟨hm.1,(hs.2 k ?_).trans hm.2⟩
   rintro rfl
   rw [hb] at hm;cases hm.2
theorem os_mapUpdate {F:Fr} {H H':Hp} {K:Value→Hp→Prop} {d:Option Tmp} {ty:TypeId} {pos:String} {af:Array Edge} {g:Option (Nat×Bool)} {x y z:Operand} {M:List Nat} {w0:World} {N:Nat} {L:Mc} {b:Nat} {i:Int} {p:Bool} {v:Value} {kc vc:List Nat}
   (hx:ev F x=some (.map (some b))) (hy:ev F y=some (fk i p)) (hz:ev F z=some v) (hkc:decV kc=fk i p) (hvc:decV vc=v) (hp:Pick H b [] (mapTg 170 L) H') (hnew:∀ e∈L,∃ j q,decV e.1=fk j q∧¬ (i=j∧p=q))
   (k:K undef ((b,[],mapTg 170 (L++[(kc,vc)]))::H')):OS (cxM M w0 N) ⟨d,.mapUpdate 170 x y z,ty,pos,af,g⟩ F H K:=by
 intro D a w ha hw
 have hw':=hw.perm hp.perm
 obtain ⟨es,ck,h1,h2⟩:=(hw'.blk _ (List.mem_cons_self ..)).2.map
 have hk:∀ e∈es.toList,∃ j q,e.key=fk j q∧¬ (i=j∧p=q):=fun e he=>by
   have h3:(e.key,e.val)∈es.toList.map (fun e=>(e.key,e.val)):=List.mem_map.2 ⟨e,he,rfl⟩
   rw [h2] at h3
   obtain ⟨c,hc1,hc2⟩:=List.mem_map.1 h3
   obtain ⟨j,q,h4,h5⟩:=hnew c hc1
   simp only [Prod.mk.injEq] at hc2
   exact ⟨j,q,by rw [← hc2.1,h4],h5⟩
 have r:=update_fk (v:=v) h1 hk
 have:(execOp a.eval ⟨d,.mapUpdate 170 x y z,ty,pos,af,g⟩).run (cxM M w0 N).P w=.ok .skip { w with heap:=w.heap.setIfInBounds b (.map (es.push { key:=fk i p,val:=v,born:=ck }) (ck+1)) }:=by
   simp only [execOp,ha.ev hx,ha.ev hy,ha.ev hz,Sem.run_bind,r,Result.andThen,Sem.run_pure]
 rw [this]
 refine ⟨_,k,hw'.swapMap h1 (Or.inr ⟨rfl,170,L++[(kc,vc)],Eq.refl _,?_⟩)⟩
 refine ⟨_,_,(MapKept.heap_set h1).1,?_⟩
 simp only [Array.toList_push,List.map_append,h2,List.map_cons,List.map_nil,hkc,hvc]
section
variable {c:Cx} {F:Fr} {H H':Hp} {K:Value→Hp→Prop} {d:Option Tmp} {ty:TypeId} {pos:String} {af:Array Edge} {g:Option (Nat×Bool)} {t:TypeId} {x y z:Operand} {M:List Nat} {w:World} {N:Nat}
theorem IsMap.ext {w w':World} {b:Nat} {L:Mc} (h:IsMap w b L) (e:Ext w w'):IsMap w' b L:=by
 obtain ⟨es,ck,h1,h2⟩:=h
 exact ⟨es,ck,(e.block b (Array.getElem?_eq_some_iff.1 h1).1).trans h1,h2⟩
theorem oq_lookupW {L:Mc} {b j:Nat} {i:Int} {p:Bool} {e:List Nat×List Nat} (hx:ev F x=some (.map (some b))) (hy:ev F y=some (fk i p)) (hb:∀ D w1,Has (cxM M w N).w0 ⟨(cxM M w N).M,D⟩ H w1→IsMap w1 b L) (hL:FkL L) (hk:∀ e∈L.take j,∃ j q,decV e.1=fk j q∧¬ (i=j∧p=q)) (he:L[j]?=some e) (hek:decV e.1=fk i p) :
   OQ (cxM M w N) ⟨d,.lookup 170 x y false,ty,pos,af,g⟩ F H (decV e.2):=.of fun D a w ha hw=>by
 obtain ⟨es,ck,h1,h2⟩:=hb _ _ hw
 have hlen:es.toList.length=L.length:=by have:=congrArg List.length h2;simpa using this
 have key:∀ (k:Nat) (x:MapEntry),es.toList[k]?=some x→∃ y:List Nat×List Nat,L[k]?=some y∧x.key=decV y.1∧x.val=decV y.2:=fun k x hx=>by
   have h3:=congrArg (fun l=>l[k]?) h2
   simp only [List.getElem?_map,hx,Option.map_some] at h3
   cases hy:L[k]? with
   | none=>rw [hy] at h3;cases h3
   | some y=>
     rw [hy] at h3
     simp only [Option.map_some,Option.some.injEq,Prod.mk.injEq] at h3
     exact ⟨y,rfl,h3.1,h3.2⟩
 have hj:j<es.toList.length:=by rw [hlen];exact (List.getElem?_eq_some_iff.1 he).1
 obtain ⟨y',hy1,hy2,hy3⟩:=key j es.toList[j] (List.getElem?_eq_getElem hj)
 rw [he] at hy1
 obtain rfl:=Option.some.inj hy1
 have r:=lookup_some (i:=i) (p:=p) (j:=j) (e:=es.toList[j]) h1 (fun x hx=>by
   obtain ⟨k,hk1,rfl⟩:=List.getElem_of_mem hx
   obtain ⟨y2,k1,k2,_⟩:=key k _ (List.getElem?_eq_getElem hk1)
   rw [k2];exact hL _ (List.mem_of_getElem? k1)) (fun x hx=>by
   obtain ⟨k,hk1,hk2⟩:=List.getElem_of_mem hx
   have hk3:es.toList[k]?=some x:=by
     have h5:(es.toList.take j)[k]?=some x:=by rw [List.getElem?_eq_getElem hk1,hk2]
     rw [List.getElem?_take] at h5
     split at h5
     · exact h5
     · cases h5
   have hkj:k<j:=by rw [List.length_take] at hk1;omega
   obtain ⟨y2,k1,k2,_⟩:=key k x hk3
   rw [k2]
   exact hk y2 (List.mem_of_getElem? (i:=k) (by rw [List.getElem?_take,if_pos hkj];exact k1))) (List.getElem?_eq_getElem hj) (by rw [hy2,hek])
 rw [hy3] at r
 simp only [execOp,ha.ev hx,ha.ev hy,Sem.run_bind,r,Result.andThen,Sem.run_pure]
end
end Go.Proofs.YtcjkndjjbjoehaaGreat
namespace Go.Proofs.YtcjkndjjbjoehaaGreat
open Go.RowKit
attribute [local irreducible] OQ OS OX Rd T TL GX GL AL AI RV wpG SAny Calls mapTg
theorem HpSub.per {H G:Hp} (h:HpSub H G):∃ K,H.Perm (G++K):=by
 induction h with
 | nil=>exact ⟨_,List.Perm.refl _⟩
 | cons p _ ih=>
   obtain ⟨K,hK⟩:=ih
   exact ⟨K,p.perm.trans (List.Perm.cons _ hK)⟩
theorem hp_of_per:∀ {G H K:Hp},H.Perm (G++K)→HpSub H G
 | [],H,K,_=>HpSub.nil
 | (b,C,g)::G,H,K,h=>by
   have hm:(b,C,g)∈H:=h.mem_iff.2 (List.mem_cons_self ..)
   obtain ⟨H',hp⟩:∃ H',Pick H b C g H':=by
     clear h
     induction H with
     | nil=>cases hm
     | cons x H ih=>
       rcases List.mem_cons.1 hm with rfl|hm
       · exact ⟨H,Pick.head _ _ _ _⟩
       · obtain ⟨H',hp⟩:=ih hm
         exact ⟨x::H',hp.tail⟩
   exact HpSub.cons hp (hp_of_per ((hp.perm.symm.trans h).cons_inv))
theorem HpSub.tr {H G K:Hp} (h:HpSub H G) (k:HpSub G K):HpSub H K:=by
 obtain ⟨A,hA⟩:=h.per
 obtain ⟨B,hB⟩:=k.per
 refine hp_of_per (K:=B++A) (hA.trans ?_)
 rw [← List.append_assoc]
 exact List.Perm.append_right _ hB
theorem HpSub.app {A B a b:Hp} (h:HpSub A a) (k:HpSub B b):HpSub (A++B) (a++b):=by
 obtain ⟨X,hX⟩:=h.per
 obtain ⟨Y,hY⟩:=k.per
 refine hp_of_per (K:=X++Y) ((hX.append hY).trans ?_)
 rw [List.append_assoc,List.append_assoc]
 refine List.Perm.append_left _ ?_
 rw [← List.append_assoc,← List.append_assoc]
 exact List.Perm.append_right _ List.perm_append_comm
theorem HpSub.swap {A B a b:Hp} (h:HpSub A a) (k:HpSub B b):HpSub (A++B) (b++a):=(hp_comm A B).tr (k.app h)
structure En where
 i:Nat
 bk:Bool
 l:List (Int×Int)
 o:Option (Nat×Nat)
def En.kc (e:En):List Nat:=[2,e.i,if e.bk then 1 else 0]
def slC (l:List (Int×Int)):Option (Nat×Nat)→List Nat
 | none=>[]
 | some (b,cap)=>[3,b,0,l.length,cap]
theorem dec_key (i:Nat) (bk:Bool):decV [2,i,if bk then 1 else 0]=fk i bk:=by cases bk<;>rfl
theorem dec_kc (e:En):decV e.kc=fk e.i e.bk:=dec_key _ _
theorem dec_slC (l:List (Int×Int)) (o:Option (Nat×Nat)):decV (slC l o)=sR l o:=by
 rcases o with _|⟨b,cap⟩<;>rfl
def enM (E:List En):Mc:=E.map fun e=>(e.kc,slC e.l e.o)
def enS (a:Hp) (e:En):Hp:=hR e.l e.o++a
def enH (E:List En):Hp:=E.foldl enS []
theorem enH_acc:∀ (E:List En) (a:Hp),HpSub (E.foldl enS a) a
 | [],a=>HpSub.refl _
 | x::E,a=>(enH_acc E (enS a x)).tr (HpSub.skipApp (HpSub.refl _))
theorem enH_at':∀ {E:List En} {e:En} (a:Hp),e∈E→HpSub (E.foldl enS a) (hR e.l e.o)
 | x::E,e,a,h=>by
   rcases List.mem_cons.1 h with rfl|h
   · exact (enH_acc E (enS a e)).tr HpSub.appLeft
   · exact enH_at' (enS a x) h
theorem enH_at {E:List En} {e:En} (h:e∈E):HpSub (enH E) (hR e.l e.o):=enH_at' [] h
theorem dec_s (b n cap:Nat):decV [3,b,0,n,cap]=.slice (some ⟨b,0,none⟩) n cap:=rfl
theorem dec_n:decV []=.slice none 0 0:=rfl
theorem dec_k0 (i:Nat):decV [2,i,0]=fk i false:=rfl
theorem dec_k1 (i:Nat):decV [2,i,1]=fk i true:=rfl
theorem enM_two (E:List En) (k:Nat) (l1 l2:List (Int×Int)) (o1 o2:Option (Nat×Nat)):enM (E++[⟨k,false,l1,o1⟩,⟨k,true,l2,o2⟩])=enM E++[([2,k,0],slC l1 o1)]++[([2,k,1],slC l2 o2)]:=by simp [enM,En.kc]
theorem enH_two (E:List En) (k:Nat) (l1 l2:List (Int×Int)) (o1 o2:Option (Nat×Nat)):enH (E++[⟨k,false,l1,o1⟩,⟨k,true,l2,o2⟩])=hR l2 o2++(hR l1 o1++enH E):=by simp [enH,enS,List.foldl_append]
def keyOf (e:En):Nat×Bool×List (Int×Int):=(e.i,e.bk,e.l)
noncomputable def legsE (v q1 q2 q3:Int) (C:List Wn) (z:Lg) (i:Nat):List (Nat×Bool×List (Int×Int)):=
 if q3<upV q1 q2 z.h then [] else [(i,false,ratesV v (upV q1 q2 z.h) z.x z.y C),(i,true,ratesV v (upV q1 q2 z.h) (-z.x) (-z.y) C)]
noncomputable def deskE (v q1 q2 q3:Int) (C:List Wn) (L:List Lg):Nat→List (Nat×Bool×List (Int×Int))
 | 0=>[]
 | k+1=>deskE v q1 q2 q3 C L k++(match L[k]? with|some z=>legsE v q1 q2 q3 C z k|none=>[])
theorem deskE_mem {v q1 q2 q3:Int} {C:List Wn} {L:List Lg} {i:Nat} {bk:Bool} {l:List (Int×Int)}:∀ {k:Nat},(i,bk,l)∈deskE v q1 q2 q3 C L k→i<k∧∃ z,L[i]?=some z∧¬ q3<upV q1 q2 z.h∧l=legRz v q1 q2 q3 z bk C
 | 0,h=>by cases h
 | k+1,h=>by
   unfold deskE at h
   rcases List.mem_append.1 h with h|h
   · obtain ⟨h1,h2⟩:=deskE_mem h
     exact ⟨by omega,h2⟩
   · split at h
     · rename_i z hz
       unfold legsE at h
       split at h
       · cases h
       · rename_i hq
         simp only [List.mem_cons,List.not_mem_nil,or_false,Prod.mk.injEq] at h
         rcases h with ⟨rfl,rfl,rfl⟩|⟨rfl,rfl,rfl⟩
         · exact ⟨by omega,z,hz,hq,by unfold legRz legR;rw [if_neg hq];rfl⟩
         · exact ⟨by omega,z,hz,hq,by unfold legRz legR;rw [if_neg hq];rfl⟩
     · cases h
theorem deskE_has {v q1 q2 q3:Int} {C:List Wn} {L:List Lg} {i:Nat} {bk:Bool} {z:Lg} (hz:L[i]?=some z) (hq:¬ q3<upV q1 q2 z.h):∀ {k:Nat},i<k→(i,bk,legRz v q1 q2 q3 z bk C)∈deskE v q1 q2 q3 C L k
 | 0,h=>by omega
 | k+1,h=>by
   unfold deskE
   rcases Nat.lt_or_eq_of_le (Nat.le_of_lt_succ h) with h1|rfl
   · exact List.mem_append_left _ (deskE_has hz hq h1)
   · refine List.mem_append_right _ ?_
     rw [hz]
     simp only
     unfold legsE legRz legR
     rw [if_neg hq,if_neg hq]
     cases bk
     · exact List.mem_cons_self ..
     · exact List.mem_cons_of_mem _ (List.mem_cons_self ..)
theorem deskE_succ {v q1 q2 q3:Int} {C:List Wn} {L:List Lg} {k:Nat} {z:Lg} (hz:L[k]?=some z):deskE v q1 q2 q3 C L (k+1)=deskE v q1 q2 q3 C L k++legsE v q1 q2 q3 C z k:=by
 show deskE v q1 q2 q3 C L k++_=_
 rw [hz]
theorem desk_no {v q1 q2 q3:Int} {C:List Wn} {L:List Lg} {k:Nat} {z:Lg} {E:List En} (hE:E.map keyOf=deskE v q1 q2 q3 C L k) (hz:L[k]?=some z) (hq:q3<upV q1 q2 z.h):E.map keyOf=deskE v q1 q2 q3 C L (k+1):=by
 rw [deskE_succ hz,hE]
 unfold legsE
 rw [if_pos hq,List.append_nil]
theorem desk_two {v q1 q2 q3:Int} {C:List Wn} {L:List Lg} {k:Nat} {z:Lg} {E:List En} (o1 o2:Option (Nat×Nat)) (hE:E.map keyOf=deskE v q1 q2 q3 C L k) (hz:L[k]?=some z) (hq:¬ q3<upV q1 q2 z.h):List.map keyOf (E++[⟨k,false,ratesV v (upV q1 q2 z.h) z.x z.y C,o1⟩,⟨k,true,ratesV v (upV q1 q2 z.h) (-z.x) (-z.y) C,o2⟩])=deskE v q1 q2 q3 C L (k+1):=by
 rw [deskE_succ hz,List.map_append,hE]
 unfold legsE
 rw [if_neg hq]
 rfl
theorem nl_two {E:List En} {k:Nat} {l1 l2:List (Int×Int)} {o1 o2:Option (Nat×Nat)} (h:∀ e∈E,e.o=none→e.l=[]) (h1:o1=none→l1=[]) (h2:o2=none→l2=[]):∀ e∈E++[⟨k,false,l1,o1⟩,⟨k,true,l2,o2⟩],e.o=none→e.l=[]:=fun e he=>by
 rcases List.mem_append.1 he with he|he
 · exact h e he
 · simp only [List.mem_cons,List.not_mem_nil,or_false] at he
   rcases he with rfl|rfl
   · exact h1
   · exact h2
theorem desk_lt {v q1 q2 q3:Int} {C:List Wn} {L:List Lg} {k:Nat} {E:List En} (hE:E.map keyOf=deskE v q1 q2 q3 C L k):∀ e∈E,e.i<k:=fun e he=>by
 have hm:keyOf e∈E.map keyOf:=List.mem_map.2 ⟨e,he,rfl⟩
 rw [hE] at hm
 exact (deskE_mem hm).1
theorem new_one {v q1 q2 q3:Int} {C:List Wn} {L:List Lg} {k:Nat} {E:List En} (hE:E.map keyOf=deskE v q1 q2 q3 C L k):∀ c∈enM E,∃ j q,decV c.1=fk j q∧¬ ((k:Int)=j∧false=q):=fun c hc=>by
 obtain ⟨e,he,rfl⟩:=List.mem_map.1 hc
 have:=desk_lt hE e he
 exact ⟨_,_,dec_kc e,fun hh=>by omega⟩
theorem new_two {v q1 q2 q3:Int} {C:List Wn} {L:List Lg} {k:Nat} {E:List En} (hE:E.map keyOf=deskE v q1 q2 q3 C L k) (vc:List Nat):∀ c∈enM E++[([2,k,0],vc)],∃ j q,decV c.1=fk j q∧¬ ((k:Int)=j∧true=q):=fun c hc=>by
 rcases List.mem_append.1 hc with hc|hc
 · obtain ⟨e,he,rfl⟩:=List.mem_map.1 hc
   have:=desk_lt hE e he
   exact ⟨_,_,dec_kc e,fun hh=>by omega⟩
 · simp only [List.mem_cons,List.not_mem_nil,or_false] at hc
   subst hc
   exact ⟨_,_,dec_k0 k,fun hh=>by cases hh.2⟩
theorem first_of {α:Type} (p:α→Bool):∀ (E:List α),(∀ e∈E,p e=false)∨∃ (j:Nat) (e:α),E[j]?=some e∧p e=true∧∀ e'∈E.take j,p e'=false
 | []=>.inl fun _ h=>by cases h
 | x::E=>by
   cases hx:p x with
   | true=>exact .inr ⟨0,x,rfl,hx,fun _ h=>by simp at h⟩
   | false=>
     rcases first_of p E with h|⟨j,e,h1,h2,h3⟩
     · exact .inl fun e he=>by
         rcases List.mem_cons.1 he with rfl|he
         · exact hx
         · exact h e he
     · exact .inr ⟨j+1,e,h1,h2,fun e' he=>by
         rw [List.take_succ_cons] at he
         rcases List.mem_cons.1 he with rfl|he
         · exact hx
         · exact h3 e' he⟩
def isKey (i:Nat) (bk:Bool) (e:En):Bool:=decide (i=e.i∧bk=e.bk)
structure DskR (w:World) (b bM:Nat) (AP AT:Option Addr) (m cM n cp:Nat) (v q1 q2 q3 q4 g0 g1:Int) (E:List En):Prop where
 c0:w.cell? ⟨b,0,none⟩=some (.slice AP m cM)
 c1:w.cell? ⟨b,0+1,none⟩=some (.slice AT n cp)
 c2:w.cell? ⟨b,0+2,none⟩=some (.int .i64 v)
 c3:w.cell? ⟨b,0+3,none⟩=some (.int .i64 q1)
 c4:w.cell? ⟨b,0+4,none⟩=some (.int .i64 q2)
 c5:w.cell? ⟨b,0+5,none⟩=some (.int .i64 q3)
 c6:w.cell? ⟨b,0+6,none⟩=some (.int .i64 q4)
 c7:w.cell? ⟨b,0+7,none⟩=some (.int .i64 g0)
 c8:w.cell? ⟨b,0+8,none⟩=some (.int .i64 g1)
 c9:w.cell? ⟨b,0+9,none⟩=some (.map (some bM))
 mp:IsMap w bM (enM E)
 rd:∀ e∈E,∀ g cap,e.o=some (g,cap)→RdS w 2 (some ⟨g,0,none⟩) e.l.length (e.l.map rtCells)
 nl:∀ e∈E,e.o=none→e.l=[]
 lt:b<w.heap.size
theorem cell_ext {w w':World} {b o:Nat} {v:Value} (h:w.cell? ⟨b,o,none⟩=some v) (e:Ext w w') (hb:b<w.heap.size):w'.cell? ⟨b,o,none⟩=some v:=by
 rw [← h]
 simp only [World.cell?]
 rw [e.block b hb]
theorem DskR.ext {w w':World} {b bM:Nat} {AP AT:Option Addr} {m cM n cp:Nat} {v q1 q2 q3 q4 g0 g1:Int} {E:List En} (h:DskR w b bM AP AT m cM n cp v q1 q2 q3 q4 g0 g1 E) (e:Ext w w'):DskR w' b bM AP AT m cM n cp v q1 q2 q3 q4 g0 g1 E:=
 ⟨cell_ext h.c0 e h.lt,cell_ext h.c1 e h.lt,cell_ext h.c2 e h.lt,cell_ext h.c3 e h.lt,cell_ext h.c4 e h.lt,cell_ext h.c5 e h.lt,cell_ext h.c6 e h.lt,cell_ext h.c7 e h.lt,cell_ext h.c8 e h.lt,cell_ext h.c9 e h.lt,h.mp.ext e,fun x hx g cap ho=>(h.rd x hx g cap ho).ext e,h.nl,Nat.lt_of_lt_of_le h.lt e.size⟩
def dkC (AP AT:Option Addr) (m cM n cp:Nat) (v q1 q2 q3 q4 g0 g1:Int) (bM:Nat):List Value:=[.slice AP m cM,.slice AT n cp,.int .i64 v,.int .i64 q1,.int .i64 q2,.int .i64 q3,.int .i64 q4,.int .i64 g0,.int .i64 g1,.map (some bM)]
def dkH (b bM:Nat) (AP AT:Option Addr) (m cM n cp:Nat) (v q1 q2 q3 q4 g0 g1:Int) (E:List En):Hp:=(b,dkC AP AT m cM n cp v q1 q2 q3 q4 g0 g1 bM,some (172,10,1))::(bM,[],mapTg 170 (enM E))::enH E
theorem rt_rows {w0:World} {M:Ms} {H H':Hp} {w:World} {g n:Nat} {l:List (Int×Int)} {tg:Tg} (hl:l.length=n) (h:Has w0 M H w) (q:Pick H g (l.map rtCells).flatten tg H'):RdS w 2 (some ⟨g,0,none⟩) n (l.map rtCells):=
 Blk.rows (h.blk _ q.mem).2 (by simpa using hl) (by simp only [List.mem_map];rintro r ⟨x,_,rfl⟩;rfl)
theorem DskR.of_has {w0 w:World} {M:Ms} {b bM:Nat} {AP AT:Option Addr} {m cM n cp:Nat} {v q1 q2 q3 q4 g0 g1:Int} {E:List En} (h:Has w0 M (dkH b bM AP AT m cM n cp v q1 q2 q3 q4 g0 g1 E) w) (hn:∀ e∈E,e.o=none→e.l=[]):DskR w b bM AP AT m cM n cp v q1 q2 q3 q4 g0 g1 E:=by
 have hb:=(h.blk _ (List.mem_cons_self ..)).2
 refine ⟨hb.cell rfl,hb.cell rfl,hb.cell rfl,hb.cell rfl,hb.cell rfl,hb.cell rfl,hb.cell rfl,hb.cell rfl,hb.cell rfl,hb.cell rfl,(h.blk _ (List.mem_cons_of_mem _ (List.mem_cons_self ..))).2.map,fun e he g cap ho=>?_,hn,hb.lt⟩
 have hs:=h.sub (HpSub.skipX (HpSub.skipX (enH_at he)))
 rw [ho] at hs
 exact rt_rows rfl hs P0
theorem desk_find {v q1 q2 q3:Int} {C:List Wn} {L:List Lg} {E:List En} {n j:Nat} {z:Lg} (hE:E.map keyOf=deskE v q1 q2 q3 C L n) (hn:j<n) (hz:L[j]?=some z) (bk:Bool) :
   (∃ p e,E[p]?=some e∧e.i=j∧e.bk=bk∧e.l=legRz v q1 q2 q3 z bk C∧∀ e'∈E.take p,¬ (j=e'.i∧bk=e'.bk))∨((∀ e∈E,¬ (j=e.i∧bk=e.bk))∧legRz v q1 q2 q3 z bk C=[]):=by
 rcases first_of (isKey j bk) E with h|⟨p,e,h1,h2,h3⟩
 · refine .inr ⟨fun e he=>of_decide_eq_false (h e he),?_⟩
   unfold legRz legR
   by_cases hq:q3<upV q1 q2 z.h
   · rw [if_pos hq]
   · exfalso
     have hm:=deskE_has (v:=v) (C:=C) (bk:=bk) hz hq hn
     rw [← hE] at hm
     obtain ⟨e,he,hk⟩:=List.mem_map.1 hm
     simp only [keyOf,Prod.mk.injEq] at hk
     exact of_decide_eq_false (h e he) ⟨hk.1.symm,hk.2.1.symm⟩
 · obtain ⟨h4,h5⟩:=of_decide_eq_true h2
   refine .inl ⟨p,e,h1,h4.symm,h5.symm,?_,fun e' he=>of_decide_eq_false (h3 e' he)⟩
   have hm:keyOf e∈E.map keyOf:=List.mem_map.2 ⟨e,List.mem_of_getElem? h1,rfl⟩
   rw [hE] at hm
   obtain ⟨_,z',hz',_,hl⟩:=deskE_mem hm
   rw [← h4,hz] at hz'
   obtain rfl:=Option.some.inj hz'
   rw [hl,h5]
def DskV (AP AT:Option Addr) (m cM n cp:Nat) (v q1 q2 q3 q4 g0 g1:Int) (C:List Wn) (L:List Lg) (u:Value) (H:Hp):Prop:=
 ∃ bD bM E,u=.tuple #[.pointer (some ⟨bD,0,none⟩),.int .i64 0]∧H=dkH bD bM AP AT m cM n cp v q1 q2 q3 q4 g0 g1 E∧E.map keyOf=deskE v q1 q2 q3 C L n∧∀ e∈E,e.o=none→e.l=[]
section
variable {F:Fr} {H H':Hp} {d:Option Tmp} {ty:TypeId} {pos:String} {af:Array Edge} {g:Option (Nat×Bool)} {x y:Operand} {w:World} {N:Nat}
theorem oq_lookupNoW {L:Mc} {b:Nat} {i:Int} {p:Bool} (hx:ev F x=some (.map (some b))) (hy:ev F y=some (fk i p)) (hb:∀ D w1,Has (cx w N).w0 ⟨(cx w N).M,D⟩ H w1→IsMap w1 b L) (hnew:∀ e∈L,∃ j q,decV e.1=fk j q∧¬ (i=j∧p=q)) :
   OQ (cx w N) ⟨d,.lookup 170 x y false,ty,pos,af,g⟩ F H (.slice none 0 0):=.of fun D a w ha hw=>by
 obtain ⟨es,ck,h1,h2⟩:=hb _ _ hw
 have hk:∀ e∈es.toList,∃ j q,e.key=fk j q∧¬ (i=j∧p=q):=fun e he=>by
   have h3:(e.key,e.val)∈es.toList.map (fun e=>(e.key,e.val)):=List.mem_map.2 ⟨e,he,rfl⟩
   rw [h2] at h3
   obtain ⟨c,hc1,hc2⟩:=List.mem_map.1 h3
   obtain ⟨j,q,h4,h5⟩:=hnew c hc1
   simp only [Prod.mk.injEq] at hc2
   exact ⟨j,q,by rw [← hc2.1,h4],h5⟩
 have r:=lookup_none h1 hk
 simp only [execOp,ha.ev hx,ha.ev hy,Sem.run_bind,r,Result.andThen,Sem.run_pure]
theorem enM_fk (E:List En):FkL (enM E):=fun c hc=>by
 obtain ⟨e,_,rfl⟩:=List.mem_map.1 hc
 exact ⟨_,_,dec_kc e⟩
theorem enM_new {E:List En} {j:Nat} {bk:Bool} (h:∀ e∈E,¬ (j=e.i∧bk=e.bk)):∀ c∈enM E,∃ i q,decV c.1=fk i q∧¬ ((j:Int)=i∧bk=q):=fun c hc=>by
 obtain ⟨e,he,rfl⟩:=List.mem_map.1 hc
 exact ⟨_,_,dec_kc e,fun hh=>h e he ⟨by omega,hh.2⟩⟩
end
theorem DskR.find {w:World} {b bM:Nat} {AP AT:Option Addr} {m cM n cp:Nat} {v q1 q2 q3 q4 g0 g1:Int} {E:List En} {C:List Wn} {L:List Lg} {j nn:Nat} {z:Lg} (h:DskR w b bM AP AT m cM n cp v q1 q2 q3 q4 g0 g1 E) (hE:E.map keyOf=deskE v q1 q2 q3 C L nn) (hn:j<nn) (hz:L[j]?=some z) (bk:Bool) :
   ∃ o,(o=none→legRz v q1 q2 q3 z bk C=[])∧(∀ g cap,o=some (g,cap)→RdS w 2 (some ⟨g,0,none⟩) (legRz v q1 q2 q3 z bk C).length ((legRz v q1 q2 q3 z bk C).map rtCells)) ∧
     ∀ (F:Fr) (H:Hp) (d:Option Tmp) (ty:TypeId) (pos:String) (af:Array Edge) (g:Option (Nat×Bool)) (x y:Operand) (w1:World) (N:Nat),Ext w w1→ev F x=some (.map (some bM))→ev F y=some (fk j bk)→OQ (cx w1 N) ⟨d,.lookup 170 x y false,ty,pos,af,g⟩ F H (sR (legRz v q1 q2 q3 z bk C) o):=by
 rcases desk_find hE hn hz bk with ⟨p,e,h1,h2,h3,h4,h5⟩|⟨h1,h2⟩
 · have hm:=List.mem_of_getElem? h1
   refine ⟨e.o,fun ho=>by rw [← h4];exact h.nl e hm ho,fun g cap ho=>by rw [← h4];exact h.rd e hm g cap ho,?_⟩
   intro F H d ty pos af g x y w1 N hw hx hy
   rw [← h4,← dec_slC]
   refine oq_lookupW (M:=[]) (L:=enM E) (j:=p) (e:=(e.kc,slC e.l e.o)) hx hy (fun D w2 hw2=>(h.mp.ext hw).ext hw2.ext.ext) (enM_fk E) ?_ ?_ (by show decV e.kc=_;rw [dec_kc,h2,h3])
   · unfold enM;rw [← List.map_take];exact enM_new h5
   · unfold enM;rw [List.getElem?_map,h1];rfl
 · refine ⟨none,fun _=>h2,fun g cap ho=>(by cases ho),?_⟩
   intro F H d ty pos af g x y w1 N hw hx hy
   exact oq_lookupNoW hx hy (fun D w2 hw2=>(h.mp.ext hw).ext hw2.ext.ext) (enM_new h1)
end Go.Proofs.YtcjkndjjbjoehaaGreat
namespace Go.Proofs.YtcjkndjjbjoehaaGreat
open Go.RowKit
attribute [local irreducible] OQ OS OX Rd T TL GX GL AL AI RV wpG SAny Calls
structure Cw where
 A:Option Addr
 c:Nat
 x:Int
 y:Int
structure CoR (w:World) (A:Option Addr) (n:Nat) (S:List Cw):Prop where
 rows:RdS w 1 A n (S.map fun r=>[.slice r.A 2 r.c])
 each:∀ r∈S,RdS w 1 r.A 2 ([r.x,r.y].map inCells)
theorem CoR.ext {w w':World} {A:Option Addr} {n:Nat} {S:List Cw} (h:CoR w A n S) (e:Ext w w'):CoR w' A n S:=⟨h.rows.ext e,fun r hr=>(h.each r hr).ext e⟩
theorem CoR.read {w:World} {A:Option Addr} {n:Nat} {S:List Cw} (h:CoR w A n S) {i:Nat} (hi:i<n) :
   ∃ b o r,A=some ⟨b,o,none⟩∧b<w.heap.size∧S[i]?=some r∧w.cell? ⟨b,o+i*1,none⟩=some (.slice r.A 2 r.c)∧RdS w 1 r.A 2 ([r.x,r.y].map inCells):=by
 obtain ⟨b,o,cs,hA,hb,hx,_,hc⟩:=h.rows.row hi
 simp only [List.getElem?_map,Option.map_eq_some_iff] at hx
 obtain ⟨r,hx,rfl⟩:=hx
 exact ⟨b,o,r,hA,hb,hx,hc 0 _ rfl,h.each r (List.mem_of_getElem? hx)⟩
theorem bl_read {w:World} {A:Option Addr} {n:Nat} {l:List Bool} (h:RdS w 1 A n (l.map blCells)) {i:Nat} (hi:i<n) :
   ∃ b o x,A=some ⟨b,o,none⟩∧b<w.heap.size∧l[i]?=some x∧w.cell? ⟨b,o+i*1,none⟩=some (.bool x):=by
 obtain ⟨b,o,cs,hA,hb,hx,_,hc⟩:=h.row hi
 simp only [List.getElem?_map,Option.map_eq_some_iff] at hx
 obtain ⟨x,hx,rfl⟩:=hx
 exact ⟨b,o,x,hA,hb,hx,hc 0 _ rfl⟩
end Go.Proofs.YtcjkndjjbjoehaaGreat
