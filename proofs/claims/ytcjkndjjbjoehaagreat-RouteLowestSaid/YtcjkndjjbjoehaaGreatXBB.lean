/- A part of the proof: rules for walks, and contracts of functions (2). -/
import Derived.Test.YtcjkndjjbjoehaaGreatXBA
import Derived.LoopIn
import Derived.RangeFuncLeaves
import Derived.RangeFuncRecord
import Derived.RangeFuncNested
import Derived.RangeFuncCalls
import Derived.Test.YtcjkndjjbjoehaaGreatChecked
set_option linter.unusedVariables false
set_option linter.unusedSimpArgs false
set_option maxRecDepth 100000
set_option maxHeartbeats 2000000
namespace Go.Proofs.YtcjkndjjbjoehaaGreat
theorem goE0e {G A1 A2 A3 A4 A5 A6 A7 A8 A9 A10 A11 A12 A13 A14 A15 A16:Prop} (p:GoP A1 A2 A3 A4 A5 A6 A7 A8 A9 A10 A11 A12 A13 A14 A15 A16) (h:GoL A1→GoL A2→GoL A3→GoL A4→GoL A5→GoL A6→GoL A7→GoL A8→GoL A9→GoL A10→GoL A11→GoL A12→GoL A13→GoL A14→GoL A15→GoL A16→GoM→G:=by intro m1 m2 m3 m4 m5 m6 m7 m8 m9 m10 m11 m12 m13 m14 m15 m16 _;(repeat' (first|((with_reducible apply oq_id);first|((with_reducible apply oc_id);first|((with_reducible apply oq_call (hc:=Tryz.call165));exact rfl;exact rfl;exact fun D w1 hw1=>within1_calls _ _ _ w1)|((with_reducible apply oq_call (hc:=Tryz.call122));exact rfl;exact rfl;exact fun D w1 hw1=>fine1 hq hw1 (by (repeat first|exact P0|apply P1)))|((with_reducible apply oq_call (hc:=Tryz.call147));exact rfl;exact rfl;exact fun D w1 hw1=>HV w1)|((with_reducible apply oq_call (hc:=Tryz.call148));exact rfl;exact rfl;exact fun D w1 hw1=>sqrt_calls _ (by omega) (by omega) w1)|((with_reducible apply oq_call (hc:=Tryz.call89));exact rfl;exact rfl;exact fun D w1 hw1=>H1 w1)|((with_reducible apply oq_call (hc:=Tryz.call89));exact rfl;exact rfl;exact fun D w1 hw1=>H2 w1)|((with_reducible apply oq_call (hc:=Tryz.call120));exact rfl;exact rfl;exact fun D w1 hw1=>fromS4 h3 hw1 (by (repeat first|exact P0|apply P1)))|((with_reducible apply oq_call (hc:=Tryz.call147));exact rfl;exact rfl;exact fun D w1 hw1=>H1 w1)|((with_reducible apply oq_call (hc:=Tryz.call147));exact rfl;exact rfl;exact fun D w1 hw1=>H2 w1)|((with_reducible apply oq_call (hc:=Tryz.call159));exact rfl;exact rfl;exact fun D w1 hw1=>H3 w1)|((with_reducible apply oq_call (hc:=Tryz.call159));exact rfl;exact rfl;exact fun D w1 hw1=>H4 w1)|((with_reducible apply oq_call (hc:=Tryz.call161));exact rfl;exact rfl;exact fun D w1 hw1=>size_calls _ (by omega) (by omega) w1)|((with_reducible apply oq_call (hc:=Tryz.call160));exact rfl;exact rfl;exact fun D w1 hw1=>mul64_calls _ _ (by omega) (by omega) (by omega) (by omega) w1)|((with_reducible apply oq_call (hc:=Tryz.call162));exact rfl;exact rfl;exact fun D w1 hw1=>D1 w1)|((with_reducible apply oq_call (hc:=Tryz.call122));exact rfl;exact rfl;exact fun D w1 hw1=>fine2 hq hw1 (by (repeat first|exact P0|apply P1)))|((with_reducible apply oq_call (hc:=Tryz.call122));exact rfl;exact rfl;exact fun D w1 hw1=>fine3 hq hw1 (by (repeat first|exact P0|apply P1)))|((with_reducible apply oq_call (hc:=Tryz.call143));exact rfl;exact rfl;exact fun D w1 hw1=>HA w1 hw1 (by (repeat first|exact P0|apply P1)))|((with_reducible apply oq_call (hc:=Tryz.call142));exact rfl;exact rfl;exact fun D w1 hw1=>sized_calls _ _ (by omega) (by omega) w1)|((with_reducible apply oq_call (hc:=Tryz.call119));exact rfl;exact rfl;exact fun D w1 hw1=>over1_calls _ _ _ _ h k0 w1)|((with_reducible apply oq_call (hc:=Tryz.call153));exact rfl;exact rfl;exact fun D w1 hw1=>H1 w1)|((with_reducible apply oq_call (hc:=Tryz.call120));exact rfl;exact rfl;exact fun D w1 hw1=>fromS2 hq hw1 (by (repeat first|exact P0|apply P1)))|((with_reducible apply oq_call (hc:=Tryz.call154));exact rfl;exact rfl;exact fun D w1 hw1=>MX w1)|((with_reducible apply oq_call (hc:=Tryz.call154));exact rfl;exact rfl;exact fun D w1 hw1=>MY w1)|((with_reducible apply oq_call (hc:=Tryz.call155));exact rfl;exact rfl;exact fun D w1 hw1=>add_calls _ _ _ _ (by omega) (by omega) w1)|((with_reducible apply oq_call (hc:=Tryz.call156));exact rfl;exact rfl;exact fun D w1 hw1=>HL w1)|((with_reducible apply oq_call (hc:=Tryz.call156));exact rfl;exact rfl;exact fun D w1 hw1=>HR w1)|((with_reducible apply oq_call (hc:=Tryz.call169));exact rfl;exact rfl;exact fun D w1 hw1=>H1 w1)|((with_reducible apply oq_call (hc:=Tryz.call158));exact rfl;exact rfl;exact fun D w1 hw1=>(within_calls _ _ _ w1).mono fun e w' h=>⟨h.1,h.2 ▸ Ext.refl _⟩))|((with_reducible apply ob_id);first|(focus ((with_reducible apply oq_shrLow);exact rfl;exact rfl;(refine ⟨?_,?_⟩<;>omega)))|(focus ((with_reducible apply oq_shr32);exact rfl;exact rfl;omega))|(focus ((with_reducible apply oq_addU);exact rfl;exact rfl;(first|exact hxy|(refine ⟨?_,?_⟩<;>omega))))|(focus ((with_reducible apply oq_mulU);exact rfl;exact rfl;(first|exact hxy|(refine ⟨?_,?_⟩<;>omega))))|(focus ((with_reducible apply oq_quoU);exact rfl;exact rfl;omega;exact hq))|(focus ((with_reducible apply oq_remU);exact rfl;exact rfl;omega))|(focus ((with_reducible apply oq_neqB);exact rfl;exact rfl)))|(apply oq_fn;exact rfl;first|exact trivial|(and_intros<;>omega)|omega|skip)|((with_reducible apply oq_load);exact rfl;exact rfl)|((with_reducible apply oq_loadAgg);exact rfl;exact rfl)|((with_reducible apply oq_buildA);(iterate 4 exact rfl))|((with_reducible apply oq_indexAgg);(iterate 4 exact rfl))|(focus ((with_reducible apply oq_andLow);exact rfl;exact rfl;(refine ⟨?_,?_⟩<;>omega)))|(focus ((with_reducible apply oq_convU);(iterate 3 exact rfl);(refine ⟨?_,?_⟩<;>omega)))|(focus ((with_reducible apply oq_sliceL (l:=1));(iterate 5 exact rfl);omega;omega))|((with_reducible apply oq_sliceArr);(iterate 3 exact rfl))|((with_reducible apply oq_build);(iterate 3 exact rfl)))|((with_reducible apply tl_id);first|(with_reducible apply tl_nil)|((with_reducible apply u_q);(iterate 4 exact rfl))|((with_reducible apply u_s0);exact rfl;exact rfl)|((with_reducible apply u_s);(iterate 3 exact rfl))|((with_reducible apply u_skip);(iterate 3 exact rfl))|((with_reducible apply u_splitD);exact rfl;exact rfl;all_goals first|(intro _;try (exfalso;omega))|skip)|((with_reducible apply u_split);exact rfl;exact rfl;all_goals first|intro _|skip))|((with_reducible apply gx_id);first|(with_reducible apply v_nil)|((with_reducible apply v_q);(iterate 3 exact rfl)))|((with_reducible apply os_id);first|((with_reducible apply os_x);exact rfl)|((with_reducible apply os_store);(iterate 4 exact rfl))|((with_reducible apply os_storeAgg);(iterate 5 exact rfl)))|((with_reducible apply ox_id);first|((with_reducible apply ox_alloc);exact rfl;intro _)|((with_reducible apply ox_boxAgg);exact rfl;intro _)|((with_reducible apply ox_buildSlice2);(iterate 6 exact rfl);intro _)|((with_reducible apply ox_buildSlice1);(iterate 6 exact rfl);intro _))|((with_reducible apply ai_id);first|((with_reducible apply ai_q);(iterate 5 exact rfl))|((with_reducible apply ai_s0);(iterate 4 exact rfl)))|((with_reducible apply rd_id);first|(apply Rd.own;(repeat first|exact P0|apply P1);exact rfl;done)|(apply Rd.old;(first|(with_reducible assumption)|exact c0|exact c1);first|exact List.not_mem_nil))|((with_reducible apply t_id);first|(with_reducible apply t_seq)|(apply t_region;kernel_rfl)|(apply t_drawn;kernel_rfl;decide +kernel)|((with_reducible apply t_condT);exact rfl)|((with_reducible apply t_condF);exact rfl)|((with_reducible apply t_condD);exact rfl;all_goals first|(intro _;try (exfalso;omega))|skip)|((with_reducible apply t_cond);exact rfl;all_goals first|intro _|skip)|(with_reducible apply t_ret)|(with_reducible apply t_skip)|(with_reducible apply t_exit)|(with_reducible apply t_block))|with_reducible apply q_thenN|with_reducible apply q_thenR|with_reducible apply q_blockR|with_reducible apply q_blockN|with_reducible apply q_thenE|((with_reducible apply q_blockE);exact rfl)|exact P0|(with_reducible apply P1)|exact Rdn.zero|apply Rdn.succ|((with_reducible apply Norm.nil);exact rfl)|((with_reducible apply Norm.cons);exact rfl)|(with_reducible apply end_ret)|exact rvs_nil|(with_reducible apply rvs_cons)|((with_reducible apply rv_tmp);exact rfl)|((with_reducible apply rv_cellAgg);exact rfl;exact rfl)|(apply t_mix (id:=5) [0,1,2,3,4,5,6,10] 6 #[false,false,false,false,false,false,false,false,false,false,false,true,false,true];kernel_rfl;kernel_rfl;exact rfl)|(apply t_mix (id:=10) [0,1,2,3,4,5,6,7,8,9,10] 2 #[false,false,false,false,false,false,false,false,false,false,false,true,false];kernel_rfl;kernel_rfl;exact rfl)|((with_reducible apply al_id);first|(apply al_done;decide +kernel)|(apply al_one 7;decide +kernel)|(apply al_one 8;decide +kernel)|(apply al_one 9;decide +kernel)|(apply al_one 11;decide +kernel)|(apply al_one 12;decide +kernel)|(apply al_one 13;decide +kernel)|(apply al_two 7 11;decide +kernel)|(apply al_two 8 11;decide +kernel)|(apply al_two 9 11;decide +kernel))|exact Nat.le_of_ble_eq_true rfl|omega));(try focus (repeat (rename_i x;first|exact goD x m1.p|revert x)));(try focus (repeat (rename_i x;first|exact goD x m2.p|revert x)));(try focus (repeat (rename_i x;first|exact goD x m3.p|revert x)));(try focus (repeat (rename_i x;first|exact goD x m4.p|revert x)));(try focus (repeat (rename_i x;first|exact goD x m5.p|revert x)));(try focus (repeat (rename_i x;first|exact goD x m6.p|revert x)));(try focus (repeat (rename_i x;first|exact goD x m7.p|revert x)));(try focus (repeat (rename_i x;first|exact goD x m8.p|revert x)));(try focus (repeat (rename_i x;first|exact goD x m9.p|revert x)));(try focus (repeat (rename_i x;first|exact goD x m10.p|revert x)));(try focus (repeat (rename_i x;first|exact goD x m11.p|revert x)));(try focus (repeat (rename_i x;first|exact goD x m12.p|revert x)));(try focus (repeat (rename_i x;first|exact goD x m13.p|revert x)));(try focus (repeat (rename_i x;first|exact goD x m14.p|revert x)));(try focus (repeat (rename_i x;first|exact goD x m15.p|revert x)));(try focus (repeat (rename_i x;first|exact goD x m16.p|revert x)))) (e:GoTs A1 A2 A3 A4 A5 A6 A7 A8 A9 A10 A11 A12 A13 A14 A15 A16:=by constructor<;>first|(with_reducible exact GoT.t)|exact GoT.u):G:=p.run h
open Go.RowKit
section
variable {P:Program} {ops:Array Oper}
def Up (I:World→Prop):Prop:=∀ w w',I w→Ext w w'→I w'
def GQI (P:Program) (o:Oper) (a:Act) (I:World→Prop) (v:Value):Prop:=∀ w,I w→givesUpon P (fun u w'=>u=v∧Ext w w') ((execOp a.eval o).run P w)
def YGI (P:Program) (ops:Array Oper) (I:World→Prop) (o:Oper) (v:Value) (a:Act):Prop:=
 (Region.wanted o (yielded ops a.tmps)=true∧GQI P o a I v)∨(Region.wanted o (yielded ops a.tmps)=false∧v=undef)
theorem YGI.of_same {I:World→Prop} {o:Oper} {v:Value} {a a':Act} (hy:YGI P ops I o v a) (he:execOp a'.eval o=execOp a.eval o)
   (hw:Region.wanted o (yielded ops a'.tmps)=Region.wanted o (yielded ops a.tmps)):YGI P ops I o v a':=by
 unfold YGI GQI at *
 rw [he,hw]
 exact hy
theorem YGI.wpOp {I:World→Prop} {w:World} {i:Nat} {o:Oper} {v:Value} {a:Act} (hi:ops[i]?=some o) (hy:YGI P ops I o v a) (hW:I w) {K:Act→World→Prop}
   (h:∀ w',Ext w w'→K (a.put o.dst v) w'):wpOp P ops QF i K a w:=by
 unfold Go.wpOp
 simp only [hi]
 rcases hy with ⟨hw,hv⟩|⟨hw,rfl⟩
 · simp only [hw,if_true]
   left
   have h1:=hv w hW
   unfold Oper.wp
   generalize (execOp a.eval o).run P w=r at *
   cases r with
   | ok n w'=>
     cases n<;>simp only [givesUpon] at h1<;>simp only [Oper.upon]
     case value u=>obtain ⟨rfl,h2⟩:=h1;exact h _ h2
     case skip=>obtain ⟨rfl,h2⟩:=h1;exact h _ h2
     case enter f args=>
       refine Calls.mono h1 fun e w'' he=>?_
       obtain ⟨v',rfl,rfl,h2⟩:=he
       exact h _ h2
     case row row args=>exact Rows.mono h1 fun u w'' he=>by obtain ⟨rfl,h2⟩:=he;exact h _ h2
   | halt x w'=>cases x<;>simp only [givesUpon] at h1
 · simp only [hw,Bool.false_eq_true,if_false];exact h _ (Ext.refl _)
def SAnyI (P:Program) (ops:Array Oper) (cov:Array Bool) (I:World→Prop) (Q:Act→World→Prop):Nat→Array Bool→Act→World→Prop
 | 0,listed,a,w=>Region.ready .any ops listed=[]∧Q a w
 | n+1,listed,a,w=>(Region.ready .any ops listed=[]→Q a w) ∧
     ∀ i∈Region.ready .any ops listed,wpOp P ops QF i (fun a' w'=>(cov.getD i false=false→I w→I w')∧∀ w'',Ext w' w''→SAnyI P ops cov I Q n (listed.setIfInBounds i true) a' w'') a w
theorem wpAny_of_SAnyI {cov:Array Bool} {I:World→Prop} {Q:Act→World→Prop} {Q':Exit→Act→World→Prop} (hQ:∀ a w,Q a w→Q' .normal a w) :
   ∀ (n:Nat) (listed:Array Bool) (a:Act) (w:World),SAnyI P ops cov I Q n listed a w→wpAny P .any ops Q' n listed a w
 | 0,_,_,_,h=>⟨h.1,hQ _ _ h.2⟩
 | n+1,_,_,_,h=>⟨fun h0=>hQ _ _ (h.1 h0),fun i hi=>wpOp_of_QF (wpOp_mono (fun _ w' h2=>wpAny_of_SAnyI hQ n _ _ w' (h2.2 w' (Ext.refl _))) (h.2 i hi))⟩
theorem SAnyI_first {cov:Array Bool} {Q:Act→World→Prop} {I:World→Prop} (hU:Up I) {i:Nat} {oi:Oper} {v:Value} (hi:ops[i]?=some oi) (hsel:∀ (j:Nat) (o:Oper) cs b,ops[j]?=some o→o.op≠.select cs b)
   (hcov:covFor ops cov i=true) :
   ∀ (n:Nat) (listed:Array Bool) (a:Act) (w0:World),I w0→Down ops listed →
     (∀ j oj,ops[j]?=some oj→j≠i→listed.getD j true=false→(∀ e∈oj.after,Region.binds .any e=true→e.on≠i)→oi.apart ops oj=true) →
     i∈Region.ready .any ops listed→YGI P ops I oi v a →
     (∀ w,Ext w0 w→SAnyI P ops cov I Q n (listed.setIfInBounds i true) (a.put oi.dst v) w)→∀ w,Ext w0 w→SAnyI P ops cov I Q (n+1) listed a w:=by
 intro n
 induction n with
 | zero=>
   intro listed a w0 hW hd _ hr hy H w hw
   refine ⟨fun h=>(by rw [h] at hr;cases hr),fun j hj=>?_⟩
   by_cases hji:j=i
   · subst hji
     exact hy.wpOp hi (hU _ _ hW hw) fun w' hw'=>⟨fun _ hI=>hU _ _ hI hw',fun w'' hw''=>H _ ((hw.trans hw').trans hw'')⟩
   · have:=ready_mono hj hji
     rw [(H w hw).1] at this
     cases this
 | succ n ih=>
   intro listed a w0 hW hd hfree hr hy H w hw
   refine ⟨fun h=>(by rw [h] at hr;cases hr),fun j hj=>?_⟩
   by_cases hji:j=i
   · subst hji
     exact hy.wpOp hi (hU _ _ hW hw) fun w' hw'=>⟨fun _ hI=>hU _ _ hI hw',fun w'' hw''=>H _ ((hw.trans hw').trans hw'')⟩
   · have h1:=(H w hw).2 j (ready_mono hj hji)
     obtain ⟨hjun,oj,hoj,hall⟩:=mem_ready.1 hj
     have hiun:listed.getD i false=false:=by
       have h0:=(mem_ready.1 hr).1
       rcases Nat.lt_or_ge i listed.size with h'|h'
       · simp [h'] at h0 ⊢;exact h0
       · simp [Array.getElem?_eq_none h'] at h0
     have hnot:∀ e∈oj.after,Region.binds .any e=true→e.on≠i:=fun e he hb heq=>by
       have h1:=hall e he hb
       rw [heq,hiun] at h1
       cases h1
     have hap:=hfree j oj hoj hji hjun hnot
     obtain ⟨_,_,h3⟩:=Oper.apart_spec hap
     have h2:=wpOp_put2 (S:=YGI P ops I oi v) hoj hap (fun cs b=>hsel j oj cs b hoj)
       (fun a u hS=>hS.of_same (execOp_put oi (fun cs b=>hsel i oi cs b hi) a oj.dst u h3) (wanted_put oi a oj.dst u h3)) (fun a d hS=>hS.of_same rfl rfl) hy h1
     have hfree':∀ k ok,ops[k]?=some ok→k≠i→(listed.setIfInBounds j true).getD k true=false →
         (∀ e∈ok.after,Region.binds .any e=true→e.on≠i)→oi.apart ops ok=true:=fun k ok hk hki hun hno=>by
       refine hfree k ok hk hki ?_ hno
       by_cases hjk:j=k
       · subst hjk;exact hjun
       · rw [getD_set_ne true hjk] at hun;exact hun
     have hc:=covFor_spec hcov hd hj hiun
     refine wpOp_mono (fun a' w' h3=>?_) h2
     obtain ⟨hS,hcv,hrest⟩:=h3
     have hww:=hcv hc (hU _ _ hW hw)
     refine ⟨fun _ _=>hww,fun w'' hw''=>ih (listed.setIfInBounds j true) a' w' hww (hd.set hj) hfree' (ready_mono hr (Ne.symm hji)) hS ?_ w'' hw''⟩
     intro w2 hw2
     rw [Array.setIfInBounds_comm _ _ hji]
     exact hrest w2 hw2
def wpGI (P:Program) (ops:Array Oper) (I:World→Prop) (Q:Act→Prop):List Nat→Act→Prop
 | [],a=>Q a
 | i::rest,a=>match ops[i]? with
   | none=>False
   | some o=>if Region.wanted o (yielded ops a.tmps) then ∃ v,GQI P o a I v∧wpGI P ops I Q rest (a.put o.dst v) else wpGI P ops I Q rest (a.put o.dst undef)
theorem wpGI_nil {I:World→Prop} {Q:Act→Prop} {a:Act} (h:Q a):wpGI P ops I Q [] a:=h
theorem wpGI_step {I:World→Prop} {Q:Act→Prop} {a:Act} {i:Nat} {rest:List Nat} {o:Oper} {v:Value} (ho:ops[i]?=some o) (hw:Region.wanted o (yielded ops a.tmps)=true) (h:GQI P o a I v)
   (hn:wpGI P ops I Q rest (a.put o.dst v)):wpGI P ops I Q (i::rest) a:=by
 unfold wpGI
 simp only [ho,hw,if_true]
 exact ⟨v,h,hn⟩
theorem wpGI_skip {I:World→Prop} {Q:Act→Prop} {a:Act} {i:Nat} {rest:List Nat} {o:Oper} {d:Tmp} (ho:ops[i]?=some o) (hw:Region.wanted o (yielded ops a.tmps)=false) (hd:o.dst=some d)
   (hn:wpGI P ops I Q rest (a.put (some d) undef)):wpGI P ops I Q (i::rest) a:=by
 unfold wpGI
 simp only [ho,hw,Bool.false_eq_true,if_false]
 rw [hd];exact hn
theorem SAnyI_lex {cov:Array Bool} {Q:Act→World→Prop} {I:World→Prop} (hU:Up I) (hs:Region.noSelect ops=true) (n:Nat):∀ (l:List Nat) (listed:Array Bool) (a:Act),lexOk ops cov l listed=true→Down ops listed →
   wpGI P ops I (fun a'=>∀ w,I w→SAnyI P ops cov I Q n (listedBy l listed) a' w) l a→∀ w,I w→SAnyI P ops cov I Q (n+l.length) listed a w
 | [],_,_,_,_,h=>h
 | i::l,listed,a,hB,hd,h=>by
   intro w hw0
   simp only [lexOk,Bool.and_eq_true] at hB
   obtain ⟨⟨⟨hr,hf⟩,hc⟩,hB'⟩:=hB
   have hr':i∈Region.ready .any ops listed:=by simpa using hr
   unfold wpGI at h
   cases ho:ops[i]? with
   | none=>simp only [ho] at h
   | some o=>
     simp only [ho] at h
     by_cases hw:Region.wanted o (yielded ops a.tmps)=true
     · simp only [hw,if_true] at h
       obtain ⟨v,hv,hK⟩:=h
       exact SAnyI_first hU ho (Region.noSelect_spec hs) hc (n+l.length) listed a w hw0 hd (Region.free_spec ho hf) hr' (.inl ⟨hw,hv⟩) (fun w' hw'=>SAnyI_lex hU hs n l _ _ hB' (hd.set hr') hK w' (hU _ _ hw0 hw')) w (Ext.refl _)
     · simp only [hw] at h
       exact SAnyI_first hU ho (Region.noSelect_spec hs) hc (n+l.length) listed a w hw0 hd (Region.free_spec ho hf) hr' (.inr ⟨by simpa using hw,rfl⟩) (fun w' hw'=>SAnyI_lex hU hs n l _ _ hB' (hd.set hr') h w' (hU _ _ hw0 hw')) w (Ext.refl _)
theorem wpI_mixed {id:Nat} {I:World→Prop} (hU:Up I) {Q:Exit→Act→World→Prop} {a:Act} {w:World} (hI:I w) (l:List Nat) (n:Nat) (cov:Array Bool) (hm:P.follows .mixedOrders=true)
   (hB:(Region.noSelect ops && (n+l.length == ops.size) && lexOk ops cov l (Array.replicate ops.size false))=true)
   (h:wpGI P ops I (fun a'=>∀ w',I w'→SAnyI P ops cov I (Q .normal) n (listedBy l (Array.replicate ops.size false)) a' w') l a):(Code.region id ops true).wp P Q a w:=by
 simp only [Bool.and_eq_true,beq_iff_eq] at hB
 obtain ⟨⟨hs,hn⟩,hl⟩:=hB
 refine wp_region_any hm (wpAny_of_SAnyI (Q:=Q .normal) (I:=I) (cov:=cov) (fun _ _ h=>h) _ _ _ _ ?_)
 rw [← hn]
 have:=SAnyI_lex (P:=P) (Q:=Q .normal) hU hs n l (Array.replicate ops.size false) a hl (Down.none _) h w.drew (hU _ _ hI (Ext.refl w).drew)
 simpa [hn] using this
theorem wpAnyIn_of_SAnyI {l m:Nat} {cov:Array Bool} {I:World→Prop} {Q:Act→World→Prop} {Q':Exit→Act→World→Prop} (hd:noDefer ops=true) (hQ:∀ a w,Q a w→Q' .normal a w) :
   ∀ (n:Nat) (listed:Array Bool) (a:Act) (w:World),SAnyI P ops cov I Q n listed a w→wpAnyIn (Fence.wide.inRound l) m P .any ops Q' n listed a w
 | 0,_,_,_,h=>⟨h.1,hQ _ _ h.2⟩
 | n+1,_,_,_,h=>⟨fun h0=>hQ _ _ (h.1 h0),fun i hi=>wpOpIn_mono (fun _ w' h2=>wpAnyIn_of_SAnyI hd hQ n _ _ w' (h2.2 w' (Ext.refl _))) (wpOpIn_of hd (h.2 i hi))⟩
theorem wpInI_mixed {r m id:Nat} {I:World→Prop} (hU:Up I) {Q:Exit→Act→World→Prop} {a:Act} {w:World} (hI:I w) (l:List Nat) (n:Nat) (cov:Array Bool) (hm:P.follows .mixedOrders=true)
   (hB:(Region.noSelect ops && (n+l.length == ops.size) && lexOk ops cov l (Array.replicate ops.size false) && noDefer ops)=true)
   (h:wpGI P ops I (fun a'=>∀ w',I w'→SAnyI P ops cov I (Q .normal) n (listedBy l (Array.replicate ops.size false)) a' w') l a):(Code.region id ops true).wpIn (Fence.wide.inRound r) m P Q a w:=by
 simp only [Bool.and_eq_true,beq_iff_eq] at hB
 obtain ⟨⟨⟨hs,hn⟩,hl⟩,hd⟩:=hB
 refine wpIn_region_any hm (wpAnyIn_of_SAnyI (Q:=Q .normal) (I:=I) (cov:=cov) hd (fun _ _ h=>h) _ _ _ _ ?_)
 rw [← hn]
 have:=SAnyI_lex (P:=P) (Q:=Q .normal) hU hs n l (Array.replicate ops.size false) a hl (Down.none _) h w.drew (hU _ _ hI (Ext.refl w).drew)
 simpa [hn] using this
theorem wpGI_mono {I:World→Prop} {Q1 Q2:Act→Prop} (hq:∀ a,Q1 a→Q2 a):∀ (l:List Nat) (a:Act),wpGI P ops I Q1 l a→wpGI P ops I Q2 l a
 | [],a,h=>hq a h
 | i::r,a,h=>by
   unfold wpGI at *
   cases ho:ops[i]? with
   | none=>simp only [ho] at h
   | some o=>
     simp only [ho] at h ⊢
     by_cases hw:Region.wanted o (yielded ops a.tmps)=true
     · simp only [hw,if_true] at h ⊢
       obtain ⟨v,h1,h2⟩:=h
       exact ⟨v,h1,wpGI_mono hq r _ h2⟩
     · simp only [hw] at h ⊢
       exact wpGI_mono hq r _ h
theorem SAnyI_done {cov:Array Bool} {I:World→Prop} {Q:Act→World→Prop} {n:Nat} {listed:Array Bool} {a:Act} {w:World} (hr:Region.ready .any ops listed=[]) (h:Q a w):SAnyI P ops cov I Q n listed a w:=by
 match n with
 | 0=>exact ⟨hr,h⟩
 | n+1=>exact ⟨fun _=>h,fun i hi=>by rw [hr] at hi;cases hi⟩
end
section
variable {P:Program} {ops:Array Oper}
end
def chain (P:Program) (ops:Array Oper) (R:Act→World→Prop):List Nat→Act→World→Prop
 | [],a,w=>R a w
 | i::rest,a,w=>match ops[i]? with
   | none=>chain P ops R rest a w
   | some o=>if Region.wanted o (yielded ops a.tmps) then o.wp P a w (chain P ops R rest) QF else chain P ops R rest (a.put o.dst undef) w
theorem wpOps_of_chain {P:Program} {ops:Array Oper} {R:Act→World→Prop} {Q:Exit→Act→World→Prop} (hQ:∀ a w,R a w→Q .normal a w) :
   ∀ (l:List Nat) (a:Act) (w:World),chain P ops R l a w→wpOps P ops Q l a w
 | [],a,w,h=>hQ a w h
 | i::rest,a,w,h=>by
   unfold chain at h
   unfold wpOps
   cases ho:ops[i]? with
   | none=>simp only [ho] at h ⊢;exact wpOps_of_chain hQ rest a w h
   | some o=>
     simp only [ho] at h ⊢
     split
     · rename_i hw
       simp only [hw,if_true] at h
       exact .inl (wp_of_QF (Oper.wp_mono' (wpOps_of_chain hQ rest) h))
     · rename_i hw
       simp only [hw] at h
       exact wpOps_of_chain hQ rest _ w h
where
 Oper.wp_mono' {o:Oper} {a:Act} {w:World} {K K':Act→World→Prop} (hk:∀ a w,K a w→K' a w) (h:o.wp P a w K QF):o.wp P a w K' QF:=by
   unfold Oper.wp at *
   generalize (execOp a.eval o).run P w=r at *
   cases r with
   | ok n w'=>
     cases n<;>simp only [Oper.upon] at h ⊢<;>first
       | exact hk _ _ h
       | exact h.mono fun e w2 he=>by cases e<;>first|exact hk _ _ he|exact he
       | exact h.mono fun u w2 he=>hk _ _ he
   | halt x w'=>cases x<;>simp only [Oper.upon] at h ⊢<;>exact h
theorem chain_mono {P:Program} {ops:Array Oper} {R R':Act→World→Prop} (hR:∀ a w,R a w→R' a w):∀ (l:List Nat) (a:Act) (w:World),chain P ops R l a w→chain P ops R' l a w
 | [],a,w,h=>hR a w h
 | i::rest,a,w,h=>by
   unfold chain at h ⊢
   cases ho:ops[i]? with
   | none=>simp only [ho] at h ⊢;exact chain_mono hR rest a w h
   | some o=>
     simp only [ho] at h ⊢
     split
     · rename_i hw
       simp only [hw,if_true] at h
       exact wpOps_of_chain.Oper.wp_mono' (chain_mono hR rest) h
     · rename_i hw
       simp only [hw] at h
       exact chain_mono hR rest _ w h
theorem wpOpsIn_of_chain {l m:Nat} {P:Program} {ops:Array Oper} {R:Act→World→Prop} {Q:Exit→Act→World→Prop} (hd:noDefer ops=true) (hQ:∀ a w,R a w→Q .normal a w) :
   ∀ (r:List Nat) (a:Act) (w:World),chain P ops R r a w→wpOpsIn (Fence.wide.inRound l) m P ops Q r a w
 | [],a,w,h=>hQ a w h
 | i::rest,a,w,h=>by
   unfold chain at h
   unfold wpOpsIn
   cases ho:ops[i]? with
   | none=>simp only [ho] at h ⊢;exact wpOpsIn_of_chain hd hQ rest a w h
   | some o=>
     simp only [ho] at h ⊢
     split
     · rename_i hw
       simp only [hw,if_true] at h
       exact wpIn_of_wp (noDefer_spec hd ho) (wpOps_of_chain.Oper.wp_mono' (wpOpsIn_of_chain hd hQ rest) h)
     · rename_i hw
       simp only [hw] at h
       exact ⟨fun _ _=>trivial,wpOpsIn_of_chain hd hQ rest _ w h⟩
structure WS (P:Program) where
 W:Code→(Exit→Act→World→Prop)→Act→World→Prop
 mono:∀ {c:Code} {Q Q':Exit→Act→World→Prop} {a:Act} {w:World},W c Q a w→(∀ e a w,Q e a w→Q' e a w)→W c Q' a w
 skip:∀ {Q:Exit→Act→World→Prop} {a:Act} {w:World},Q .normal a w→W .skip Q a w
 exit:∀ {Q:Exit→Act→World→Prop} {a:Act} {w:World} {id:Nat},Q (.exit id) a w→W (.exit id) Q a w
 ret:∀ {Q:Exit→Act→World→Prop} {a:Act} {w:World},Q .ret a w→W .ret Q a w
 seq:∀ {Q:Exit→Act→World→Prop} {a:Act} {w:World} {x y:Code},W x (Exit.then (W y Q) Q) a w→W (.seq x y) Q a w
 cond:∀ {Q:Exit→Act→World→Prop} {a:Act} {w:World} {c:Operand} {x y:Code} {t:Bool},a.eval c=.bool t→W (if t then x else y) Q a w→W (.cond c x y) Q a w
 block:∀ {Q:Exit→Act→World→Prop} {a:Act} {w:World} {id:Nat} {c:Code},W c (Exit.inBlock id Q) a w→W (.block id c) Q a w
 loop:∀ {Q:Exit→Act→World→Prop} {a:Act} {w:World} {c:Code} (I:Act→World→Prop) (μ:Act→World→Nat),I a w→(∀ a w,I a w→W c (Exit.then (fun a' w'=>I a' w'∧μ a' w'<μ a w) Q) a w)→W (.loop c) Q a w
 region:∀ {Q:Exit→Act→World→Prop} {a:Act} {w:World} {id:Nat} {ops:Array Oper},noDefer ops=true→chain P ops (Q .normal) (List.range ops.size) a w→W (.region id ops false) Q a w
 mixed:∀ {Q:Exit→Act→World→Prop} {a:Act} {w:World} {id:Nat} {ops:Array Oper} {I:World→Prop} (l:List Nat) (n:Nat) (cov:Array Bool),Up I→I w→P.follows .mixedOrders=true →
   (Region.noSelect ops && (n+l.length == ops.size) && lexOk ops cov l (Array.replicate ops.size false) && noDefer ops)=true →
   wpGI P ops I (fun a'=>∀ w',I w'→SAnyI P ops cov I (Q .normal) n (listedBy l (Array.replicate ops.size false)) a' w') l a→W (.region id ops true) Q a w
def WS.own (P:Program):WS P where
 W c Q a w:=c.wp P Q a w
 mono:=wp_mono
 skip:=wp_skip
 exit:=wp_exit
 ret:=wp_ret
 seq:=wp_seq
 cond:=wp_cond
 block:=wp_block
 loop:=wp_loop
 region hd h:=wp_region (wpOps_of_chain (fun _ _ h=>h) _ _ _ h)
 mixed l n cov hU hI hm hB h:=by
   simp only [Bool.and_eq_true] at hB
   exact wpI_mixed hU hI l n cov hm (by simp only [Bool.and_eq_true];exact hB.1) h
def WS.round (P:Program) (l m:Nat):WS P where
 W c Q a w:=c.wpIn (Fence.wide.inRound l) m P Q a w
 mono:=wpIn_mono
 skip:=wpIn_skip
 exit:=wpIn_exit
 ret:=wpIn_ret
 seq:=wpIn_seq
 cond:=wpIn_cond
 block:=wpIn_block
 loop:=wpIn_loop
 region hd h:=wpIn_region (wpOpsIn_of_chain hd (fun _ _ h=>h) _ _ _ h)
 mixed l n cov hU hI hm hB h:=wpInI_mixed hU hI l n cov hm hB h
abbrev QS:=Exit→Fr→Hp→Prop
def cv (c:Cx) (Q:QS):Exit→Act→World→Prop:=fun e a w=>∃ D F H,Q e F H∧Frm D c.N F a∧Has c.w0 ⟨c.M,D⟩ H w
def T (c:Cx) (S:WS c.P) (k:Code) (Q:QS) (F:Fr) (H:Hp):Prop:=∀ D a w,Frm D c.N F a→Has c.w0 ⟨c.M,D⟩ H w→S.W k (cv c Q) a w
def thenQ (K:Fr→Hp→Prop) (Q:QS):QS
 | .normal,F,H=>K F H
 | e,F,H=>Q e F H
def blockQ (id:Nat) (Q:QS):QS
 | .exit i,F,H=>match Nat.beq i id with|true=>Q .normal F H|false=>Q (.exit i) F H
 | e,F,H=>Q e F H
section
variable {c:Cx} {S:WS c.P} {Q:QS} {F F':Fr} {H H':Hp} {x y:Code} {K:Fr→Hp→Prop}
theorem cv_then {e:Exit} {a:Act} {w:World} (h:cv c (thenQ K Q) e a w):Exit.then (fun a w=>∃ D F H,K F H∧Frm D c.N F a∧Has c.w0 ⟨c.M,D⟩ H w) (cv c Q) e a w:=by
 obtain ⟨D,F,H,h1,h2,h3⟩:=h
 cases e<;>exact ⟨D,F,H,h1,h2,h3⟩
theorem t_seq (h:T c S x (thenQ (T c S y Q) Q) F H):T c S (.seq x y) Q F H:=fun D a w ha hw=>
 S.seq (S.mono (h D a w ha hw) fun e a w he=>by
   have:=cv_then he
   cases e<;>first
     | exact this
     | (obtain ⟨D,F,H,h1,h2,h3⟩:=this;exact h1 D a w h2 h3))
theorem t_skip (h:Q .normal F H):T c S .skip Q F H:=fun D a w ha hw=>S.skip ⟨D,F,H,h,ha,hw⟩
theorem t_exit {id:Nat} (h:Q (.exit id) F H):T c S (.exit id) Q F H:=fun D a w ha hw=>S.exit ⟨D,F,H,h,ha,hw⟩
theorem t_ret (h:Q .ret F H):T c S .ret Q F H:=fun D a w ha hw=>S.ret ⟨D,F,H,h,ha,hw⟩
theorem t_block {id:Nat} (h:T c S x (blockQ id Q) F H):T c S (.block id x) Q F H:=fun D a w ha hw=>
 S.block (S.mono (h D a w ha hw) fun e a w he=>by
   obtain ⟨D,F,H,h1,h2,h3⟩:=he
   cases e with
   | exit i=>
     simp only [blockQ] at h1
     simp only [Exit.inBlock]
     split at h1
     · rename_i hb
       rw [if_pos (Nat.eq_of_beq_eq_true hb)]
       exact ⟨D,F,H,h1,h2,h3⟩
     · rename_i hb
       rw [if_neg (fun e=>by subst e;simp at hb)]
       exact ⟨D,F,H,h1,h2,h3⟩
   | _=>exact ⟨D,F,H,h1,h2,h3⟩)
theorem t_condT {o:Operand} (ho:ev F o=some (.bool true)) (h:T c S x Q F H):T c S (.cond o x y) Q F H:=fun D a w ha hw=>S.cond (ha.ev ho) (h D a w ha hw)
theorem t_condF {o:Operand} (ho:ev F o=some (.bool false)) (h:T c S y Q F H):T c S (.cond o x y) Q F H:=fun D a w ha hw=>S.cond (ha.ev ho) (h D a w ha hw)
theorem t_cond {o:Operand} {b:Bool} (ho:ev F o=some (.bool b)) (h1:b=true→T c S x Q F H) (h2:b=false→T c S y Q F H):T c S (.cond o x y) Q F H:=by
 cases b
 · exact t_condF ho (h2 rfl)
 · exact t_condT ho (h1 rfl)
theorem t_condD {o:Operand} {p:Prop} {i:Decidable p} (ho:ev F o=some (.bool (decide p))) (h1:p→T c S x Q F H) (h2:¬ p→T c S y Q F H):T c S (.cond o x y) Q F H:=
 t_cond ho (fun h=>h1 (of_decide_eq_true h)) (fun h=>h2 (of_decide_eq_false h))
theorem t_condN {o:Operand} {p:Prop} {i:Decidable p} (ho:ev F o=some (.bool (!decide p))) (h1:¬ p→T c S x Q F H) (h2:p→T c S y Q F H):T c S (.cond o x y) Q F H:=
 t_cond ho (fun h=>h1 (of_decide_eq_false (by simpa using h))) (fun h=>h2 (of_decide_eq_true (by simpa using h)))
def FrSub (F:Fr):Fr→Prop
 | []=>True
 | (d,v)::G=>look F d=some v∧FrSub F G
theorem FrSub.nil {F:Fr}:FrSub F []:=trivial
theorem FrSub.cons {F G:Fr} {d:Nat} {v:Value} (h:look F d=some v) (k:FrSub F G):FrSub F ((d,v)::G):=⟨h,k⟩
theorem FrSub.consE {F G:Fr} {d:Nat} {v u:Value} (h:look F d=some u) (e:u=v) (k:FrSub F G):FrSub F ((d,v)::G):=⟨e ▸ h,k⟩
theorem FrSub.look {F:Fr}:∀ {G:Fr},FrSub F G→∀ d v,YtcjkndjjbjoehaaGreat.look G d=some v→YtcjkndjjbjoehaaGreat.look F d=some v
 | [],_,d,v,hv=>by cases hv
 | (e,u)::G,h,d,v,hv=>by
   simp only [YtcjkndjjbjoehaaGreat.look] at hv
   split at hv
   · rename_i hb
     obtain rfl:=Nat.eq_of_beq_eq_true hb
     obtain rfl:=Option.some.inj hv
     exact h.1
   · exact h.2.look d v hv
theorem Frm.sub {D:List Nat} {N:Nat} {a:Act} (h:Frm D N F a) (k:FrSub F F'):Frm D N F' a:=⟨h.size,h.defers,fun d v hv=>h.at_ d v (k.look d v hv)⟩
inductive HpSub:Hp→Hp→Prop
 | nil {H:Hp}:HpSub H []
 | cons {H H' G:Hp} {b:Nat} {C:List Value} {g:Tg} (h:Pick H b C g H') (k:HpSub H' G):HpSub H ((b,C,g)::G)
theorem HpSub.consE {H H' G:Hp} {b:Nat} {C C':List Value} {g:Tg} (h:Pick H b C g H') (e:C=C') (k:HpSub H' G):HpSub H ((b,C',g)::G):=e ▸ .cons h k
theorem Has.sub {w0:World} {M:Ms} {w:World} (k:HpSub H H') (h:Has w0 M H w):Has w0 M H' w:=by
 have key:∀ {H G:Hp},HpSub H G→∃ R,H.Perm (G++R):=by
   intro H G k
   induction k with
   | nil=>exact ⟨_,List.Perm.refl _⟩
   | cons p _ ih=>
     obtain ⟨R,ih⟩:=ih
     exact ⟨R,p.perm.trans (List.Perm.cons _ ih)⟩
 obtain ⟨R,hp⟩:=key k
 have h':=h.perm hp
 refine ⟨h'.ext,fun x hx=>h'.blk x (List.mem_append_left _ hx),?_,h'.marks⟩
 have:=h'.nodup
 rw [List.map_append] at this
 exact (List.nodup_append.1 this).1
theorem t_loop {ι:Type} (fr:ι→Fr) (hp:ι→Hp) (Pi:ι→Prop) (μ:ι→Nat) (i0:ι) (h0:Pi i0) (hF:FrSub F (fr i0)) (hH:HpSub H (hp i0))
    (h:∀ i,Pi i→T c S x (thenQ (fun F' H'=>∃ j,Pi j∧μ j<μ i∧FrSub F' (fr j)∧HpSub H' (hp j)) Q) (fr i) (hp i)):T c S (.loop x) Q F H:=by
  intro D a w ha hw
  let I:Act→World→Nat→Prop:=fun a w n=>∃ D i,Pi i∧μ i=n∧Frm D c.N (fr i) a∧Has c.w0 ⟨c.M,D⟩ (hp i) w
  -- the least measure of an index that fits
  have ex:∀ a w,(∃ n,I a w n)→∃ n,I a w n∧∀ m,I a w m→n≤m:=fun a w ⟨n,hn⟩=>by
    induction n using Nat.strongRecOn with
    | _ n ih=>
      by_cases hs:∃ m,m<n∧I a w m
      · obtain ⟨m,hm,hi⟩:=hs;exact ih m hm hi
      · exact ⟨n,hn,fun m hm=>by rcases Nat.lt_or_ge m n with h|h;exact absurd ⟨m,h,hm⟩ hs;exact h⟩
  let mm:Act→World→Nat:=fun a w=>open Classical in if h:∃ n,I a w n then Classical.choose (ex a w h) else 0
  have hmm:∀ a w n,I a w n→I a w (mm a w)∧mm a w≤n:=fun a w n hn=>by
    have hx:∃ n,I a w n:=⟨n,hn⟩
    have h1:=Classical.choose_spec (ex a w hx)
    have h2:mm a w=Classical.choose (ex a w hx):=dif_pos hx
    rw [h2]
    exact ⟨h1.1,h1.2 n hn⟩
  refine S.loop (fun a w=>∃ n,I a w n) mm ⟨_,D,i0,h0,rfl,ha.sub hF,hw.sub hH⟩ ?_
  intro a w ⟨n,hn⟩
  obtain ⟨⟨D,i,hi,hμ,hfa,hhw⟩,_⟩:=hmm a w n hn
  refine S.mono (h i hi D a w hfa hhw) fun e a' w' he=>?_
  have:=cv_then he
  cases e<;>first
    | exact this
    | (obtain ⟨D',F',H',⟨j,hj,hlt,hF',hH'⟩,h2,h3⟩:=this
       have hI:I a' w' (μ j):=⟨D',j,hj,rfl,h2.sub hF',h3.sub hH'⟩
       exact ⟨⟨_,hI⟩,by have:=(hmm a' w' _ hI).2;omega⟩)
end
inductive KeepF (F:Fr):List Nat→Fr→Prop
 | nil:KeepF F [] []
 | cons {s:Nat} {v:Value} {l:List Nat} {G:Fr} (h:look F s=some v) (k:KeepF F l G):KeepF F (s::l) ((s,v)::G)
 | skip {s:Nat} {l:List Nat} {G:Fr} (k:KeepF F l G):KeepF F (s::l) G
theorem KeepF.sub {F G:Fr} {l:List Nat} (h:KeepF F l G):FrSub F G:=by
 induction h with
 | nil=>exact .nil
 | cons h _ ih=>exact .cons h ih
 | skip _ ih=>exact ih
theorem FrSub.append {F:Fr}:∀ {A B:Fr},FrSub F A→FrSub F B→FrSub F (A++B)
 | [],_,_,h=>h
 | (_,_)::_,_,h,k=>⟨h.1,FrSub.append h.2 k⟩
theorem HpSub.refl:∀ (H:Hp),HpSub H H
 | []=>.nil
 | (b,C,g)::H=>.cons (.head b C g H) (HpSub.refl H)
section
variable {c:Cx} {S:WS c.P} {Q:QS} {F:Fr} {H:Hp} {x:Code}
theorem t_loopK {ι:Type} (keep:List Nat) (ch:ι→Fr) (hc:ι→Hp) (Pi:ι→Prop) (μ:ι→Nat) (i0:ι) {G:Fr} {GH:Hp} (hK:KeepF F keep G) (hF:FrSub F (ch i0)) (hH:HpSub H (hc i0++GH)) (h0:Pi i0)
   (h:∀ i,Pi i→T c S x (thenQ (fun F' H'=>∃ j,Pi j∧μ j<μ i∧FrSub F' (ch j++G)∧HpSub H' (hc j++GH)) Q) (ch i++G) (hc i++GH)):T c S (.loop x) Q F H:=
 t_loop (fun i=>ch i++G) (fun i=>hc i++GH) Pi μ i0 h0 (hF.append hK.sub) hH h
end
/-! A region's operations, one behind the other -/
def TL (c:Cx) (ops:Array Oper) (rest:List Oper) (R:Fr→Hp→Prop) (F:Fr) (H:Hp):Prop:=
 ∀ i,ops.toList.drop i=rest→∀ D a w,Frm D c.N F a→Has c.w0 ⟨c.M,D⟩ H w→chain c.P ops (fun a w=>∃ F H,R F H∧Frm D c.N F a∧Has c.w0 ⟨c.M,D⟩ H w) (List.range' i (ops.size-i)) a w
theorem drop_cons {ops:Array Oper} {i:Nat} {o:Oper} {rest:List Oper} (h:ops.toList.drop i=o::rest):ops[i]?=some o∧ops.toList.drop (i+1)=rest∧List.range' i (ops.size-i)=i::List.range' (i+1) (ops.size-(i+1)):=by
 have hlt:i<ops.toList.length:=by
   rcases Nat.lt_or_ge i ops.toList.length with h1|h1
   · exact h1
   · rw [List.drop_eq_nil_of_le h1] at h;cases h
 have h2:ops.toList[i]?=some o:=by
   have:(ops.toList.drop i)[0]?=some o:=by rw [h];rfl
   simpa using this
 refine ⟨by simpa using h2,?_,?_⟩
 · have:(ops.toList.drop i).drop 1=rest:=by rw [h];rfl
   simpa [List.drop_drop] using this
 · have hs:i<ops.size:=by simpa using hlt
   rw [show ops.size-i=(ops.size-(i+1))+1 by omega,List.range'_succ]
theorem givesUpon_wp {P:Program} {o:Oper} {a:Act} {w:World} {R:Value→World→Prop} {K:Act→World→Prop} (h:givesUpon P R ((execOp a.eval o).run P w)) (k:∀ v w',R v w'→K (a.put o.dst v) w'):o.wp P a w K QF:=by
 unfold Oper.wp
 generalize (execOp a.eval o).run P w=r at *
 cases r with
 | ok n w'=>
   cases n<;>simp only [givesUpon] at h<;>simp only [Oper.upon]<;>first
     | exact k _ _ h
     | exact h.mono fun e w2 ⟨u,he,hu⟩=>by subst he;exact k _ _ hu
     | exact h.mono fun u w2 hu=>k _ _ hu
 | halt x w'=>cases x<;>exact h.elim
section
variable {c:Cx} {S:WS c.P} {Q:QS} {F:Fr} {H:Hp} {ops:Array Oper} {o:Oper} {rest:List Oper} {R:Fr→Hp→Prop} {d:Nat} {v:Value}
theorem t_region {id:Nat} {l:List Oper} (hd:noDefer ⟨l⟩=true) (h:TL c ⟨l⟩ l (fun F H=>Q .normal F H) F H):T c S (.region id ⟨l⟩ false) Q F H:=fun D a w ha hw=>by
 refine S.region hd ?_
 have:=h 0 rfl D a w ha hw
 rw [List.range_eq_range']
 exact chain_mono (fun a w ⟨F,H,h1,h2,h3⟩=>⟨D,F,H,h1,h2,h3⟩) _ _ _ this
theorem tl_nil (h:R F H):TL c ops [] R F H:=fun i hi D a w ha hw=>by
 have:ops.size-i=0:=by
   have:=List.drop_eq_nil_iff.1 hi
   simp at this;omega
 rw [this]
 exact ⟨F,H,h,ha,hw⟩
theorem wanted_none {y:Nat→Option Bool} (h:o.guard=none):Region.wanted o y=true:=by unfold Region.wanted;rw [h]
def gslot (ops:Array Oper) (j:Nat):Option Nat:=(ops[j]?).bind (·.dst)
theorem yielded_at {j s:Nat} {b:Bool} {D:List Nat} {N:Nat} {a:Act} (ha:Frm D N F a) (hs:gslot ops j=some s) (hb:look F s=some (.bool b)):yielded ops a.tmps j=some b:=by
 unfold gslot at hs
 unfold yielded
 rw [hs]
 simp [ha.at_ s _ hb]
theorem wanted_T {j s:Nat} {b:Bool} {D:List Nat} {N:Nat} {a:Act} (ha:Frm D N F a) (hg:o.guard=some (j,b)) (hs:gslot ops j=some s) (hb:look F s=some (.bool b)):Region.wanted o (yielded ops a.tmps)=true:=by
 unfold Region.wanted
 rw [hg]
 simp [yielded_at ha hs hb]
theorem wanted_F {j s:Nat} {b b':Bool} {D:List Nat} {N:Nat} {a:Act} (ha:Frm D N F a) (hg:o.guard=some (j,b)) (hs:gslot ops j=some s) (hb:look F s=some (.bool b')) (hne:(b' == b)=false):Region.wanted o (yielded ops a.tmps)=false:=by
 unfold Region.wanted
 rw [hg]
 simp only [yielded_at ha hs hb]
 cases b<;>cases b'<;>first|rfl|cases hne
theorem Frm.same {D:List Nat} {N s:Nat} {a:Act} {u:Value} (ha:Frm D N F a) (hb:look F s=some u):Frm D N ((s,u)::F) a:=by
 refine ⟨ha.size,ha.defers,fun t v hv=>?_⟩
 by_cases h:s=t
 · subst h;rw [look_cons_self] at hv;obtain rfl:=Option.some.inj hv;exact ha.at_ _ _ hb
 · rw [look_cons_ne F u h] at hv;exact ha.at_ _ _ hv
def runs (ops:Array Oper) (F:Fr) (o:Oper):Option Bool:=
 match o.guard with
 | none=>some true
 | some (j,want)=>match gslot ops j with
   | none=>none
   | some s=>match look F s with
     | some (.bool b)=>match b,want with
       | true,true=>some true
       | false,false=>some true
       | true,false=>some false
       | false,true=>some false
     | some (.tuple ⟨[]⟩)=>some false
     | _=>none
theorem wanted_U {j s:Nat} {b:Bool} {D:List Nat} {N:Nat} {a:Act} (ha:Frm D N F a) (hg:o.guard=some (j,b)) (hs:gslot ops j=some s) (hb:look F s=some (.tuple ⟨[]⟩)):Region.wanted o (yielded ops a.tmps)=false:=by
 have hy:yielded ops a.tmps j=none:=by
   unfold gslot at hs
   unfold yielded
   rw [hs]
   simp [ha.at_ s _ hb]
 unfold Region.wanted
 rw [hg]
 simp [hy]
def gof (ops:Array Oper) (o:Oper):Option Nat:=
 match o.guard with
 | none=>none
 | some (j,_)=>gslot ops j
theorem runs_spec {D:List Nat} {N:Nat} {a:Act} {r:Bool} (ha:Frm D N F a) (h:runs ops F o=some r):Region.wanted o (yielded ops a.tmps)=r:=by
 unfold runs at h
 split at h
 · rename_i hg
   cases h
   exact wanted_none hg
 · rename_i j want hg
   split at h
   · cases h
   · rename_i s hs
     split at h
     · rename_i b hb
       cases b<;>cases want<;>cases h<;>first
         | exact wanted_T ha hg hs hb
         | exact wanted_F ha hg hs hb rfl
     · rename_i hb
       cases h
       exact wanted_U ha hg hs hb
     · cases h
def isX:Op→Bool
 | .alloc _|.box ..|.buildSlice ..=>true
 | _=>false
def isW:Op→Bool
 | .alloc _|.box ..|.buildSlice ..|.store ..|.makeSlice ..=>true
 | .call ⟨.builtin .append,_,_⟩=>true
 | _=>false
theorem u_q (hr:runs ops F o=some true) (_hw:isW o.op=false) (hd:o.dst=some d) (hN:Nat.blt d c.N=true) (h:OQ c o F H v) (k:TL c ops rest R ((d,v)::F) H):TL c ops (o::rest) R F H:=fun i hi D a w ha hw=>by
 obtain ⟨h1,h2,h3⟩:=drop_cons hi
 rw [h3]
 simp only [chain,h1,runs_spec ha hr,if_true]
 refine givesUpon_wp (h D a w ha hw) fun u w' ⟨hu,hx⟩=>?_
 subst hu
 rw [hd]
 exact k _ h2 _ _ _ (ha.put hN _) (hw.grow hx)
theorem u_s (hr:runs ops F o=some true) (hd:o.dst=some d) (hN:Nat.blt d c.N=true) (h:OS c o F H (fun v H'=>TL c ops rest R ((d,v)::F) H')):TL c ops (o::rest) R F H:=fun i hi D a w ha hw=>by
 obtain ⟨h1,h2,h3⟩:=drop_cons hi
 rw [h3]
 simp only [chain,h1,runs_spec ha hr,if_true]
 refine givesUpon_wp (h D a w ha hw) fun u w' ⟨H',hu,hx⟩=>?_
 rw [hd]
 exact hu _ h2 _ _ _ (ha.put hN _) hx
theorem u_s0 (hr:runs ops F o=some true) (hd:o.dst=none) (h:OS c o F H (fun _ H'=>TL c ops rest R F H')):TL c ops (o::rest) R F H:=fun i hi D a w ha hw=>by
 obtain ⟨h1,h2,h3⟩:=drop_cons hi
 rw [h3]
 simp only [chain,h1,runs_spec ha hr,if_true]
 refine givesUpon_wp (h D a w ha hw) fun u w' ⟨H',hu,hx⟩=>?_
 rw [hd]
 exact hu _ h2 _ _ _ (ha.putNone _) hx
theorem u_skip (hr:runs ops F o=some false) (hd:o.dst=some d) (hN:Nat.blt d c.N=true) (k:TL c ops rest R ((d,undef)::F) H):TL c ops (o::rest) R F H:=fun i hi D a w ha hw=>by
 obtain ⟨h1,h2,h3⟩:=drop_cons hi
 rw [h3]
 simp only [chain,h1,runs_spec ha hr,Bool.false_eq_true,if_false]
 rw [hd]
 exact k _ h2 _ _ _ (ha.put hN _) hw
theorem u_split {s:Nat} {b:Bool} (hg:gof ops o=some s) (hb:look F s=some (.bool b)) (h1:b=true→TL c ops (o::rest) R ((s,.bool true)::F) H) (h2:b=false→TL c ops (o::rest) R ((s,.bool false)::F) H) :
   TL c ops (o::rest) R F H:=fun i hi D a w ha hw=>by
 cases b
 · exact h2 rfl i hi D a w (ha.same hb) hw
 · exact h1 rfl i hi D a w (ha.same hb) hw
theorem u_splitD {s:Nat} {p:Prop} {i:Decidable p} (hg:gof ops o=some s) (hb:look F s=some (.bool (decide p))) (h1:p→TL c ops (o::rest) R ((s,.bool true)::F) H) (h2:¬ p→TL c ops (o::rest) R ((s,.bool false)::F) H) :
   TL c ops (o::rest) R F H:=u_split hg hb (fun h=>h1 (of_decide_eq_true h)) (fun h=>h2 (of_decide_eq_false h))
theorem u_splitN {s:Nat} {p:Prop} {i:Decidable p} (hg:gof ops o=some s) (hb:look F s=some (.bool (!decide p))) (h1:¬ p→TL c ops (o::rest) R ((s,.bool true)::F) H) (h2:p→TL c ops (o::rest) R ((s,.bool false)::F) H) :
   TL c ops (o::rest) R F H:=u_split hg hb (fun h=>h1 (of_decide_eq_false (by simpa using h))) (fun h=>h2 (of_decide_eq_true (by simpa using h)))
/-! A region that draws its order: the quiet operations -/
theorem Has.up {w0:World} {M:Ms} {H:Hp}:Up (Has w0 M H):=fun _ _ h e=>h.grow e
def GL (c:Cx) (ops:Array Oper) (rest:List Nat) (R:Fr→Prop) (F:Fr) (H:Hp):Prop:=
 ∀ D a,Frm D c.N F a→wpGI c.P ops (Has c.w0 ⟨c.M,D⟩ H) (fun a'=>∃ F',R F'∧Frm D c.N F' a') rest a
theorem gl_nil {R:Fr→Prop} (h:R F):GL c ops [] R F H:=fun D a ha=>wpGI_nil ⟨F,h,ha⟩
theorem gl_go {i:Nat} {rest:List Nat} {R:Fr→Prop} (ho:ops[i]?=some o) (hw0:∀ D a,Frm D c.N F a→Region.wanted o (yielded ops a.tmps)=true) (hd:o.dst=some d) (hN:Nat.blt d c.N=true) (h:OQ c o F H v) (k:GL c ops rest R ((d,v)::F) H):GL c ops (i::rest) R F H:=fun D a ha=>
 wpGI_step (v:=v) ho (hw0 D a ha) (fun w hw=>h D a w ha hw) (by rw [hd];exact k _ _ (ha.put hN _))
def GX (c:Cx) (ops:Array Oper) (rest:List Oper) (R:Fr→Prop) (F:Fr) (H:Hp):Prop:=
 ∀ l:List Nat,l.map (fun i=>ops[i]?)=rest.map some→GL c ops l R F H
theorem map_cons {l:List Nat} (h:l.map (fun i=>ops[i]?)=(o::rest).map some):∃ i l',l=i::l'∧ops[i]?=some o∧l'.map (fun i=>ops[i]?)=rest.map some:=by
 cases l with
 | nil=>cases h
 | cons i l=>
   rw [List.map_cons,List.map_cons] at h
   injection h with h1 h2
   exact ⟨i,l,rfl,h1,h2⟩
theorem v_nil {R:Fr→Prop} (h:R F):GX c ops [] R F H:=fun l hl=>by
 obtain rfl:l=[]:=by simpa using hl
 exact gl_nil h
theorem v_q {R:Fr→Prop} (hr:runs ops F o=some true) (hd:o.dst=some d) (hN:Nat.blt d c.N=true) (h:OQ c o F H v) (k:GX c ops rest R ((d,v)::F) H):GX c ops (o::rest) R F H:=fun l hl=>by
 obtain ⟨i,l,rfl,h1,h2⟩:=map_cons hl
 exact gl_go h1 (fun D a ha=>runs_spec ha hr) hd hN h (k l h2)
theorem v_skip {R:Fr→Prop} (hr:runs ops F o=some false) (hd:o.dst=some d) (hN:Nat.blt d c.N=true) (k:GX c ops rest R ((d,undef)::F) H):GX c ops (o::rest) R F H:=fun l hl=>by
 obtain ⟨i,l,rfl,h1,h2⟩:=map_cons hl
 exact fun D a ha=>wpGI_skip h1 (runs_spec ha hr) hd (k l h2 _ _ (ha.put hN _))
theorem v_split {s:Nat} {b:Bool} {R:Fr→Prop} (hg:gof ops o=some s) (hb:look F s=some (.bool b)) (h1:b=true→GX c ops (o::rest) R ((s,.bool true)::F) H) (h2:b=false→GX c ops (o::rest) R ((s,.bool false)::F) H) :
   GX c ops (o::rest) R F H:=fun l hl D a ha=>by
 cases b
 · exact h2 rfl l hl D a (ha.same hb)
 · exact h1 rfl l hl D a (ha.same hb)
theorem v_splitD {s:Nat} {p:Prop} {i':Decidable p} {R:Fr→Prop} (hg:gof ops o=some s) (hb:look F s=some (.bool (decide p))) (h1:p→GX c ops (o::rest) R ((s,.bool true)::F) H) (h2:¬ p→GX c ops (o::rest) R ((s,.bool false)::F) H) :
   GX c ops (o::rest) R F H:=v_split hg hb (fun h=>h1 (of_decide_eq_true h)) (fun h=>h2 (of_decide_eq_false h))
theorem v_splitN {s:Nat} {p:Prop} {i':Decidable p} {R:Fr→Prop} (hg:gof ops o=some s) (hb:look F s=some (.bool (!decide p))) (h1:¬ p→GX c ops (o::rest) R ((s,.bool true)::F) H) (h2:p→GX c ops (o::rest) R ((s,.bool false)::F) H) :
   GX c ops (o::rest) R F H:=v_split hg hb (fun h=>h1 (of_decide_eq_false (by simpa using h))) (fun h=>h2 (of_decide_eq_true (by simpa using h)))
def nthO:List Oper→Nat→Option Oper
 | [],_=>none
 | o::_,0=>some o
 | _::l,n+1=>nthO l n
theorem nthO_spec {l:List Oper} {i:Nat} {o:Oper} (h:nthO l i=some o):l[i]?=some o:=by
 induction l generalizing i with
 | nil=>cases h
 | cons x l ih=>
   cases i with
   | zero=>simpa [nthO] using h
   | succ i=>simpa using ih h
def pickOps (l:List Oper):List Nat→Option (List Oper)
 | []=>some []
 | i::r=>match nthO l i,pickOps l r with
   | some o,some os=>some (o::os)
   | _,_=>none
theorem pickOps_spec {l:List Oper}:∀ {r:List Nat} {os:List Oper},pickOps l r=some os→r.map (fun i=>(Array.mk l)[i]?)=os.map some
 | [],os,h=>by obtain rfl:=Option.some.inj h;rfl
 | i::r,os,h=>by
   unfold pickOps at h
   split at h
   · rename_i o os' h1 h2
     obtain rfl:=Option.some.inj h
     rw [List.map_cons,List.map_cons,pickOps_spec h2]
     simp [nthO_spec h1]
   · cases h
def AL (c:Cx) (ops:Array Oper) (cov:Array Bool) (H0:Hp) (n:Nat) (listed:Array Bool) (R:Fr→Hp→Prop) (F:Fr) (H:Hp):Prop:=
 ∀ D a w,Frm D c.N F a→Has c.w0 ⟨c.M,D⟩ H w→SAnyI c.P ops cov (Has c.w0 ⟨c.M,D⟩ H0) (fun a w=>∃ D F H,R F H∧Frm D c.N F a∧Has c.w0 ⟨c.M,D⟩ H w) n listed a w
theorem t_mixed {id:Nat} (l:List Nat) (n:Nat) (cov:Array Bool) (hm:c.P.follows .mixedOrders=true) (hB:(Region.noSelect ops && (n+l.length == ops.size) && lexOk ops cov l (Array.replicate ops.size false) && noDefer ops)=true)
   (h:GL c ops l (fun F'=>AL c ops cov H n (listedBy l (Array.replicate ops.size false)) (fun F H=>Q .normal F H) F' H) F H):T c S (.region id ops true) Q F H:=fun D a w ha hw=>by
 refine S.mixed l n cov (Has.up (M:=⟨c.M,D⟩)) hw hm hB (wpGI_mono (fun a' ⟨F',h1,h2⟩ w' hw'=>?_) l a (h D a ha))
 exact h1 D a' w' h2 hw'
theorem al_done {cov:Array Bool} {H0:Hp} {n:Nat} {listed:Array Bool} (hr:Region.ready .any ops listed=[]) (h:R F H):AL c ops cov H0 n listed R F H:=fun D a w ha hw=>SAnyI_done hr ⟨D,F,H,h,ha,hw⟩
theorem t_quiet {id:Nat} (l:List Nat) (hm:c.P.follows .mixedOrders=true)
   (hB:(Region.noSelect ops && (0+l.length == ops.size) && lexOk ops #[] l (Array.replicate ops.size false) && noDefer ops && (Region.ready .any ops (listedBy l (Array.replicate ops.size false))).isEmpty)=true)
   (h:GL c ops l (fun F'=>Q .normal F' H) F H):T c S (.region id ops true) Q F H:=by
 simp only [Bool.and_eq_true] at hB
 refine t_mixed l 0 #[] hm (by simp only [Bool.and_eq_true];exact hB.1) ?_
 have hr:Region.ready .any ops (listedBy l (Array.replicate ops.size false))=[]:=by simpa using hB.2
 intro D a ha
 exact wpGI_mono (fun a' ⟨F',h1,h2⟩=>⟨F',al_done hr h1,h2⟩) l a (h D a ha)
def quietOk (ops:Array Oper):Bool:=
 let l:=List.range' 0 ops.size
 Region.noSelect ops && (0+l.length == ops.size) && lexOk ops #[] l (Array.replicate ops.size false) && noDefer ops && (Region.ready .any ops (listedBy l (Array.replicate ops.size false))).isEmpty && ops.all fun o=>!isW o.op
theorem range_map (l:List Oper):(List.range' 0 (Array.mk l).size).map (fun i=>(Array.mk l)[i]?)=l.map some:=by
 apply List.ext_getElem?
 intro i
 simp only [List.getElem?_map,List.getElem?_range']
 by_cases h:i<l.length
 · simp [h]
 · simp [h]
theorem t_drawn {id:Nat} {l:List Oper} (hm:c.P.follows .mixedOrders=true) (hB:quietOk ⟨l⟩=true) (h:GX c ⟨l⟩ l (fun F'=>Q .normal F' H) F H):T c S (.region id ⟨l⟩ true) Q F H:=
 t_quiet (List.range' 0 (Array.mk l).size) hm (by unfold quietOk at hB;simp only [Bool.and_eq_true] at hB ⊢;exact hB.1) (h _ (range_map l))
theorem t_mix {id:Nat} {l ql:List Oper} (q:List Nat) (n:Nat) (cov:Array Bool) (hm:c.P.follows .mixedOrders=true) (hB:(Region.noSelect ⟨l⟩ && (n+q.length == (Array.mk l).size) && lexOk ⟨l⟩ cov q (Array.replicate (Array.mk l).size false) && noDefer ⟨l⟩)=true) (hq:pickOps l q=some ql)
   (h:GX c ⟨l⟩ ql (fun F'=>AL c ⟨l⟩ cov H n (listedBy q (Array.replicate (Array.mk l).size false)) (fun F H=>Q .normal F H) F' H) F H):T c S (.region id ⟨l⟩ true) Q F H:=
 t_mixed q n cov hm hB (h q (pickOps_spec hq))
def AI (c:Cx) (ops:Array Oper) (cov:Array Bool) (H0:Hp) (n:Nat) (listed:Array Bool) (i:Nat) (R:Fr→Hp→Prop) (F:Fr) (H:Hp):Prop:=
 ∀ D a w,Frm D c.N F a→Has c.w0 ⟨c.M,D⟩ H w→wpOp c.P ops QF i (fun a' w'=>(cov.getD i false=false→Has c.w0 ⟨c.M,D⟩ H0 w→Has c.w0 ⟨c.M,D⟩ H0 w')∧∀ w'',Ext w' w''→SAnyI c.P ops cov (Has c.w0 ⟨c.M,D⟩ H0) (fun a w=>∃ D F H,R F H∧Frm D c.N F a∧Has c.w0 ⟨c.M,D⟩ H w) n (listed.setIfInBounds i true) a' w'') a w
section
variable {cov:Array Bool} {H0:Hp} {n:Nat} {listed:Array Bool}
theorem al_list {rs:List Nat} (hr:Region.ready .any ops listed=rs) (hne:rs≠[]) (h:∀ j∈rs,AI c ops cov H0 n listed j R F H):AL c ops cov H0 (n+1) listed R F H:=fun D a w ha hw=>
 ⟨fun h0=>absurd (hr.symm.trans h0) hne,fun j hj=>h j (hr ▸ hj) D a w ha hw⟩
theorem al_one (i:Nat) (hr:Region.ready .any ops listed=[i]) (h:AI c ops cov H0 n listed i R F H):AL c ops cov H0 (n+1) listed R F H:=
 al_list hr (by simp) fun j hj=>by
   obtain rfl:j=i:=by simpa using hj
   exact h
theorem al_two (i k:Nat) (hr:Region.ready .any ops listed=[i,k]) (h:AI c ops cov H0 n listed i R F H) (h':AI c ops cov H0 n listed k R F H):AL c ops cov H0 (n+1) listed R F H:=
 al_list hr (by simp) fun j hj=>by
   rcases (by simpa using hj:j=i∨j=k) with rfl|rfl
   · exact h
   · exact h'
theorem al_three (i k m:Nat) (hr:Region.ready .any ops listed=[i,k,m]) (h:AI c ops cov H0 n listed i R F H) (h':AI c ops cov H0 n listed k R F H) (h'':AI c ops cov H0 n listed m R F H):AL c ops cov H0 (n+1) listed R F H:=
 al_list hr (by simp) fun j hj=>by
   rcases (by simpa using hj:j=i∨j=k∨j=m) with rfl|rfl|rfl
   · exact h
   · exact h'
   · exact h''
theorem al_four (i k m p:Nat) (hr:Region.ready .any ops listed=[i,k,m,p]) (h:AI c ops cov H0 n listed i R F H) (h':AI c ops cov H0 n listed k R F H) (h'':AI c ops cov H0 n listed m R F H) (h3:AI c ops cov H0 n listed p R F H):AL c ops cov H0 (n+1) listed R F H:=
 al_list hr (by simp) fun j hj=>by
   rcases (by simpa using hj:j=i∨j=k∨j=m∨j=p) with rfl|rfl|rfl|rfl
   · exact h
   · exact h'
   · exact h''
   · exact h3
theorem wpOp_go {P:Program} {i:Nat} {l:List Oper} {a:Act} {w:World} {K:Act→World→Prop} (ho:nthO l i=some o) (hw:Region.wanted o (yielded ⟨l⟩ a.tmps)=true) (h:o.wp P a w K QF):wpOp P ⟨l⟩ QF i K a w:=by
 have ho:(Array.mk l)[i]?=some o:=by simpa using nthO_spec ho
 unfold wpOp
 simp only [ho,hw,if_true]
 exact .inl h
theorem wpOp_no {P:Program} {i:Nat} {l:List Oper} {a:Act} {w:World} {K:Act→World→Prop} (ho:nthO l i=some o) (hw:Region.wanted o (yielded ⟨l⟩ a.tmps)=false) (h:K (a.put o.dst undef) w):wpOp P ⟨l⟩ QF i K a w:=by
 have ho:(Array.mk l)[i]?=some o:=by simpa using nthO_spec ho
 unfold wpOp
 simp only [ho,hw,Bool.false_eq_true,if_false]
 exact h
theorem ai_q {i:Nat} {l:List Oper} (ho:nthO l i=some o) (_:isW o.op=false) (hr:runs ⟨l⟩ F o=some true) (hd:o.dst=some d) (hN:Nat.blt d c.N=true)
   (h:OQ c o F H v) (k:AL c ⟨l⟩ cov H0 n (listed.setIfInBounds i true) R ((d,v)::F) H):AI c ⟨l⟩ cov H0 n listed i R F H:=fun D a w ha hw=>by
 refine wpOp_go ho (runs_spec ha hr) (givesUpon_wp (h D a w ha hw) fun u w' ⟨hu,hx⟩=>?_)
 subst hu
 rw [hd]
 exact ⟨fun _ hI=>hI.grow hx,fun w'' hw''=>k _ _ _ (ha.put hN _) ((hw.grow hx).grow hw'')⟩
theorem ai_s {i:Nat} {l:List Oper} (ho:nthO l i=some o) (hr:runs ⟨l⟩ F o=some true) (hd:o.dst=some d) (hN:Nat.blt d c.N=true) (hc:cov.getD i false=true)
   (h:OS c o F H (fun v H'=>AL c ⟨l⟩ cov H0 n (listed.setIfInBounds i true) R ((d,v)::F) H')):AI c ⟨l⟩ cov H0 n listed i R F H:=fun D a w ha hw=>by
 refine wpOp_go ho (runs_spec ha hr) (givesUpon_wp (h D a w ha hw) fun u w' ⟨H',hu,hx⟩=>?_)
 rw [hd]
 exact ⟨fun h=>by rw [hc] at h;(cases h),fun w'' hw''=>hu _ _ _ (ha.put hN _) (hx.grow hw'')⟩
theorem ai_x {i:Nat} {l:List Oper} (ho:nthO l i=some o) (_:isX o.op=true) (hr:runs ⟨l⟩ F o=some true) (hd:o.dst=some d) (hN:Nat.blt d c.N=true)
   (h:OX c o F H (fun v H'=>AL c ⟨l⟩ cov H0 n (listed.setIfInBounds i true) R ((d,v)::F) H')):AI c ⟨l⟩ cov H0 n listed i R F H:=fun D a w ha hw=>by
 refine wpOp_go ho (runs_spec ha hr) (givesUpon_wp (h D a w ha hw) fun u w' ⟨⟨H',hu,hx⟩,he⟩=>?_)
 rw [hd]
 exact ⟨fun _ hI=>hI.grow he,fun w'' hw''=>hu _ _ _ (ha.put hN _) (hx.grow hw'')⟩
theorem ai_s0 {i:Nat} {l:List Oper} (ho:nthO l i=some o) (hr:runs ⟨l⟩ F o=some true) (hd:o.dst=none) (hc:cov.getD i false=true)
   (h:OS c o F H (fun _ H'=>AL c ⟨l⟩ cov H0 n (listed.setIfInBounds i true) R F H')):AI c ⟨l⟩ cov H0 n listed i R F H:=fun D a w ha hw=>by
 refine wpOp_go ho (runs_spec ha hr) (givesUpon_wp (h D a w ha hw) fun u w' ⟨H',hu,hx⟩=>?_)
 rw [hd]
 exact ⟨fun h=>by rw [hc] at h;(cases h),fun w'' hw''=>hu _ _ _ (ha.putNone _) (hx.grow hw'')⟩
theorem ai_n {i:Nat} {l:List Oper} (ho:nthO l i=some o) (hr:runs ⟨l⟩ F o=some true) (hd:o.dst=some d) (hN:Nat.blt d c.N=true)
   (h:OS c o F H (fun v H'=>HpSub H' H0∧AL c ⟨l⟩ cov H0 n (listed.setIfInBounds i true) R ((d,v)::F) H')):AI c ⟨l⟩ cov H0 n listed i R F H:=fun D a w ha hw=>by
 refine wpOp_go ho (runs_spec ha hr) (givesUpon_wp (h D a w ha hw) fun u w' ⟨H',⟨hs,hu⟩,hx⟩=>?_)
 rw [hd]
 exact ⟨fun _ _=>hx.sub hs,fun w'' hw''=>hu _ _ _ (ha.put hN _) (hx.grow hw'')⟩
theorem ai_n0 {i:Nat} {l:List Oper} (ho:nthO l i=some o) (hr:runs ⟨l⟩ F o=some true) (hd:o.dst=none)
   (h:OS c o F H (fun _ H'=>HpSub H' H0∧AL c ⟨l⟩ cov H0 n (listed.setIfInBounds i true) R F H')):AI c ⟨l⟩ cov H0 n listed i R F H:=fun D a w ha hw=>by
 refine wpOp_go ho (runs_spec ha hr) (givesUpon_wp (h D a w ha hw) fun u w' ⟨H',⟨hs,hu⟩,hx⟩=>?_)
 rw [hd]
 exact ⟨fun _ _=>hx.sub hs,fun w'' hw''=>hu _ _ _ (ha.putNone _) (hx.grow hw'')⟩
theorem ai_skip {i:Nat} {l:List Oper} (ho:nthO l i=some o) (hr:runs ⟨l⟩ F o=some false) (hd:o.dst=some d) (hN:Nat.blt d c.N=true) (k:AL c ⟨l⟩ cov H0 n (listed.setIfInBounds i true) R ((d,undef)::F) H):AI c ⟨l⟩ cov H0 n listed i R F H:=fun D a w ha hw=>by
 refine wpOp_no ho (runs_spec ha hr) ?_
 rw [hd]
 exact ⟨fun _ hI=>hI,fun w'' hw''=>k _ _ _ (ha.put hN _) (hw.grow hw'')⟩
theorem ai_split {i s:Nat} {b:Bool} {l:List Oper} (ho:nthO l i=some o) (hg:gof ⟨l⟩ o=some s) (hb:look F s=some (.bool b)) (h1:b=true→AI c ⟨l⟩ cov H0 n listed i R ((s,.bool true)::F) H) (h2:b=false→AI c ⟨l⟩ cov H0 n listed i R ((s,.bool false)::F) H) :
   AI c ⟨l⟩ cov H0 n listed i R F H:=fun D a w ha hw=>by
 cases b
 · exact h2 rfl D a w (ha.same hb) hw
 · exact h1 rfl D a w (ha.same hb) hw
theorem ai_splitD {i s:Nat} {p:Prop} {i':Decidable p} {l:List Oper} (ho:nthO l i=some o) (hg:gof ⟨l⟩ o=some s) (hb:look F s=some (.bool (decide p))) (h1:p→AI c ⟨l⟩ cov H0 n listed i R ((s,.bool true)::F) H) (h2:¬ p→AI c ⟨l⟩ cov H0 n listed i R ((s,.bool false)::F) H) :
   AI c ⟨l⟩ cov H0 n listed i R F H:=ai_split ho hg hb (fun h=>h1 (of_decide_eq_true h)) (fun h=>h2 (of_decide_eq_false h))
theorem ai_splitN {i s:Nat} {p:Prop} {i':Decidable p} {l:List Oper} (ho:nthO l i=some o) (hg:gof ⟨l⟩ o=some s) (hb:look F s=some (.bool (!decide p))) (h1:¬ p→AI c ⟨l⟩ cov H0 n listed i R ((s,.bool true)::F) H) (h2:p→AI c ⟨l⟩ cov H0 n listed i R ((s,.bool false)::F) H) :
   AI c ⟨l⟩ cov H0 n listed i R F H:=ai_split ho hg hb (fun h=>h1 (of_decide_eq_false (by simpa using h))) (fun h=>h2 (of_decide_eq_true (by simpa using h)))
theorem al_id (h:AL c ops cov H0 n listed R F H):AL c ops cov H0 n listed R F H:=h
theorem al_keep {G:Hp} (h:HpSub H G) (k:AL c ops cov H0 n listed R F H):HpSub H G∧AL c ops cov H0 n listed R F H:=⟨h,k⟩
theorem ai_id {i:Nat} (h:AI c ops cov H0 n listed i R F H):AI c ops cov H0 n listed i R F H:=h
end
theorem t_cut {ι:Type} {x y:Code} (fr:ι→Fr) (hp:ι→Hp) (Pi:ι→Prop) (h1:T c S x (fun e F' H'=>e=.normal∧∃ i,Pi i∧FrSub F' (fr i)∧HpSub H' (hp i)) F H) (h2:∀ i,Pi i→T c S y Q (fr i) (hp i)):T c S (.seq x y) Q F H:=by
 refine t_seq fun D a w ha hw=>S.mono (h1 D a w ha hw) fun e a' w' he=>?_
 obtain ⟨D',F',H',⟨rfl,i,hi,hF,hH⟩,h3,h4⟩:=he
 exact ⟨D',_,_,h2 i hi,h3.sub hF,h4.sub hH⟩
/-! The end of a function -/
def RV (c:Cx) (F:Fr) (H:Hp) (r:ResultVar) (v:Value):Prop:=
 ∀ D a w,Frm D c.N F a→Has c.w0 ⟨c.M,D⟩ H w→((match r with|.tmp t=>pure (a.tmps.getD t undef)|.cell x t=>do loadVar t (← asAddr (a.tmps.getD x undef)):Sem Value)).run c.P w=.ok v w
theorem rv_tmp {t:Nat} (h:look F t=some v):RV c F H (.tmp t) v:=fun D a w ha hw=>by
 have:=ha.at_ t v h
 simp [Sem.run_pure,Array.getD_eq_getD_getElem?,this]
theorem rv_cell {t s0 x:Nat} {p:Addr} {z0:List Value} {k0:TyK} (ht:tyAt c.tys t=some ⟨false,s0,z0,k0⟩) (h:look F x=some (.pointer (some p))) (hv:Rd c H p v):RV c F H (.cell x t) v:=fun D a w ha hw=>by
 have h0:=ha.at_ x _ h
 have h1:=(c.ty ht).agg w
 have h2:=run_load c.P p w v (hv D w hw)
 simp [Array.getD_eq_getD_getElem?,h0,asAddr,loadVar,Sem.run_bind,Sem.run_pure,h1,h2,Result.andThen]
theorem rv_cellAgg {t k x b o:Nat} {z0:List Value} {k0:TyK} {vs:List Value} (ht:tyAt c.tys t=some ⟨true,k,z0,k0⟩) (h:look F x=some (.pointer (some ⟨b,o,none⟩))) (hr:Rdn c H b o k vs):RV c F H (.cell x t) (.agg ⟨vs⟩):=fun D a w ha hw=>by
 obtain ⟨hv,hl⟩:=hr.spec
 have h0:=ha.at_ x _ h
 have h1:=(c.ty ht).agg w
 have h3:=(c.ty ht).size w
 rw [← hl] at h3
 have h2:=run_loadCells_eq c.P w b o vs (fun j v hj=>Rds.at_ hw vs o hv j v hj)
 simp [Array.getD_eq_getD_getElem?,h0,asAddr,loadVar,Sem.run_bind,Sem.run_pure,h1,h2,h3,Result.andThen]
def RVs (c:Cx) (F:Fr) (H:Hp):List ResultVar→List Value→Prop
 | [],[]=>True
 | r::rs,v::vs=>RV c F H r v∧RVs c F H rs vs
 | _,_=>False
theorem rvs_nil:RVs c F H [] []:=trivial
theorem rvs_cons {r:ResultVar} {rs:List ResultVar} {vs:List Value} (h:RV c F H r v) (k:RVs c F H rs vs):RVs c F H (r::rs) (v::vs):=⟨h,k⟩
def retOf:List Value→Value
 | [v]=>v
 | vs=>.tuple ⟨vs⟩
def endQ (c:Cx) (rs:List ResultVar) (PV:Value→Hp→Prop):QS:=fun e F H=>(e=.normal∨e=.ret)∧∃ vs,RVs c F H rs vs∧PV (retOf vs) H
theorem end_ret {rs:List ResultVar} {vs:List Value} {PV:Value→Hp→Prop} (h:RVs c F H rs vs) (k:PV (retOf vs) H):endQ c rs PV .ret F H:=⟨.inr rfl,vs,h,k⟩
theorem end_normal {rs:List ResultVar} {vs:List Value} {PV:Value→Hp→Prop} (h:RVs c F H rs vs) (k:PV (retOf vs) H):endQ c rs PV .normal F H:=⟨.inl rfl,vs,h,k⟩
theorem run_mapM (P:Program) (w:World) (f:ResultVar→Sem Value):∀ (rs:List ResultVar) (vs:List Value),rs.length=vs.length→(∀ (i:Nat) r v,rs[i]?=some r→vs[i]?=some v→(f r).run P w=.ok v w)→(rs.mapM f).run P w=.ok vs w
 | [],[],_,_=>by simp [Sem.run_pure]
 | [],_::_,h,_=>by simp at h
 | _::_,[],h,_=>by simp at h
 | r::rs,v::vs,hl,h=>by
   have h0:=h 0 r v rfl rfl
   have h1:=run_mapM P w f rs vs (by simpa using hl) (fun i r' v' hr hv=>h (i+1) r' v' (by simpa using hr) (by simpa using hv))
   simp [List.mapM_cons,Sem.run_bind,Sem.run_pure,h0,h1,Result.andThen]
theorem RVs.run {D:List Nat} {a:Act} {w:World} (ha:Frm D c.N F a) (hw:Has c.w0 ⟨c.M,D⟩ H w):∀ {rs:List ResultVar} {vs:List Value},RVs c F H rs vs→rs.length=vs.length∧∀ (i:Nat) r v,rs[i]?=some r→vs[i]?=some v →
   ((match r with|.tmp t=>pure (a.tmps.getD t undef)|.cell x t=>do loadVar t (← asAddr (a.tmps.getD x undef)):Sem Value)).run c.P w=.ok v w
 | [],[],_=>⟨rfl,fun i r v h=>by simp at h⟩
 | [],_::_,h=>h.elim
 | _::_,[],h=>h.elim
 | r::rs,v::vs,h=>by
   have ih:=RVs.run ha hw h.2
   refine ⟨by simpa using ih.1,fun i r' v' hr hv=>?_⟩
   cases i with
   | zero=>
     obtain rfl:r=r':=by simpa using hr
     obtain rfl:v=v':=by simpa using hv
     exact h.1 D a w ha hw
   | succ i=>exact ih.2 i r' v' (by simpa using hr) (by simpa using hv)
theorem results_run {fn:Func} {rs:List ResultVar} {D:List Nat} {a:Act} {w:World} {vs:List Value} (hrs:fn.results=⟨rs⟩) (ha:Frm D c.N F a) (hw:Has c.w0 ⟨c.M,D⟩ H w) (h:RVs c F H rs vs):(results fn a.tmps).run c.P w=.ok (retOf vs) w:=by
 obtain ⟨h1,h2⟩:=RVs.run ha hw h
 have h3:=run_mapM c.P w _ _ _ h1 h2
 unfold results
 rw [Sem.run_bind,hrs,Array.mapM_eq_mapM_toList,map_eq_pure_bind,Sem.run_bind]
 refine (congrArg (fun r=>((Result.andThen r (fun a w'=>Sem.run c.P (pure a.toArray) w')).andThen fun a w'=>Sem.run c.P (pure (if h:a.size=1 then a[0] else Value.tuple a)) w')) h3).trans ?_
 simp only [Result.andThen,Sem.run_pure]
 match vs with
 | []=>rfl
 | [v]=>rfl
 | v::v1::vs=>simp [retOf]
theorem Has.take {w0:World} {M:List Nat} {k:Nat} {D:List Nat} {H:Hp} {w:World} (h:Has w0 ⟨M,k::D⟩ H w):(Instr.takeDeferred k).run c.P w=.ok [] (w.putObj k (.deferred none))∧Has w0 ⟨M,D⟩ H (w.putObj k (.deferred none)):=by
 have hk:=h.marks.2 k (List.mem_cons_self ..)
 have hd:=List.nodup_cons.1 h.marks.1
 refine ⟨run_takeDeferred hk.2,⟨h.ext.os,h.ext.tape,h.ext.output,by simpa using h.ext.size,fun b hb hm=>?_⟩,fun x hx=>⟨(h.blk x hx).1,(h.blk x hx).2.same (World.putObj_heap_other fun e=>?_)⟩,h.nodup,hd.2,fun j hj=>?_⟩
 · rw [World.putObj_heap_other (fun e=>by have:=hk.1;omega)]
   exact h.ext.block b hb hm
 · exact mark_ne (h.blk x hx).2 hk.2 e.symm
 · have hj':=h.marks.2 j (List.mem_cons_of_mem _ hj)
   refine ⟨hj'.1,?_⟩
   rw [World.putObj_heap_other (fun e:j=k=>hd.1 (by rw [← e];exact hj))]
   exact hj'.2
theorem leaves_marks {fn:Func} {R:Ending→World→Prop} {tmps:Array Value} {v:Value} (n:Nat):∀ (D:List Nat) (w:World),Has c.w0 ⟨c.M,D⟩ H w→(∀ w',Has c.w0 ⟨c.M,[]⟩ H w'→(results fn tmps).run c.P w'=.ok v w'∧R (.returned v) w') →
   LeavesInM Fence.wide n c.P fn tmps R (D.map dmark) .returning w
 | [],w,h,hr=>⟨v,hr w h⟩
 | k::D,w,h,hr=>by
   have ht:=Has.take (c:=c) h
   exact ⟨(fun e=>by cases e),.inl ⟨k,_,rfl,ht.1,leaves_marks n D _ ht.2 hr⟩⟩
theorem enter {k:FuncId} {fn:Func} {code:Code} {rs:List ResultVar} {args:List Value} {PV:Value→Hp→Prop} (hf:c.P.funcs[k]?=some fn) (hb:fn.body=some code) (hrs:fn.results=⟨rs⟩) (hN:c.N=args.length+(fn.ntmps-args.length))
   (hF:∀ d v,look F d=some v→args[d]?=some v) (hw:Has c.w0 ⟨c.M,[]⟩ H c.w0)
   (h:T c (WS.own c.P) code (endQ c rs PV) F H):Calls c.P k ⟨args⟩ c.w0 fun e w'=>∃ v H',e=.returned v∧PV v H'∧Has c.w0 ⟨c.M,[]⟩ H' w':=by
 refine (callsIn_wide (n:=0)).1 (callsIn_of_wp_marks hf hb trivial ?_)
 have ha:Frm [] c.N F { tmps:=(⟨args⟩:Array Value)++Array.replicate (fn.ntmps-(⟨args⟩:Array Value).size) undef,defers:=[] }:=by
   refine ⟨by simp [hN],rfl,fun d v hv=>?_⟩
   have:=hF d v hv
   have hlt:d<args.length:=(List.getElem?_eq_some_iff.1 this).1
   rw [Array.getElem?_append_left (by simpa using hlt)]
   simpa using this
 have h0:=h [] _ _ ha hw
 refine wpIn_wide.2 (wp_mono h0 fun e a w' ⟨D,F',H',⟨he,vs,h1,h2⟩,h3,h4⟩=>?_)
 have key:LeavesInM Fence.wide 0 c.P fn a.tmps (fun e w'=>∃ v H',e=.returned v∧PV v H'∧Has c.w0 ⟨c.M,[]⟩ H' w') a.defers .returning w':=by
   rw [h3.defers]
   refine leaves_marks (v:=retOf vs) 0 D w' h4 fun w'' h5=>⟨?_,_,H',rfl,h2,h5⟩
   exact results_run (a:={ a with defers:=[] }) (D:=[]) hrs ⟨h3.size,rfl,h3.at_⟩ h5 h1
 rcases he with rfl|rfl
 · exact key
 · exact key
theorem Has.start (w:World):Has w ⟨[],[]⟩ [] w:=⟨ExtM.refl _ _,fun x hx=>(List.not_mem_nil hx).elim,List.nodup_nil,List.nodup_nil,fun k hk=>(List.not_mem_nil hk).elim⟩
def frOf:Nat→List Value→Fr
 | _,[]=>[]
 | i,v::vs=>(i,v)::frOf (i+1) vs
theorem look_frOf:∀ (vs:List Value) (i d:Nat) (v:Value),look (frOf i vs) d=some v→i≤d∧vs[d-i]?=some v
 | [],i,d,v,h=>by cases h
 | u::vs,i,d,v,h=>by
   by_cases hd:i=d
   · subst hd
     simp only [frOf] at h
     rw [look_cons_self] at h
     exact ⟨Nat.le_refl _,by simpa using h⟩
   · simp only [frOf] at h
     rw [look_cons_ne _ _ hd] at h
     obtain ⟨h1,h2⟩:=look_frOf vs (i+1) d v h
     refine ⟨by omega,?_⟩
     rw [show d-i=(d-(i+1))+1 by omega]
     simpa using h2
theorem enterQ {k:FuncId} {fn:Func} {code:Code} {rs:List ResultVar} {args:List Value} {V:Value} (hf:c.P.funcs[k]?=some fn) (hb:fn.body=some code) (hrs:fn.results=⟨rs⟩) (hN:c.N=args.length+(fn.ntmps-args.length)) (hM:c.M=[])
   (h:T c (WS.own c.P) code (endQ c rs fun v _=>v=V) (frOf 0 args) []):Calls c.P k ⟨args⟩ c.w0 fun e w'=>e=.returned V∧Ext c.w0 w':=
 (enter hf hb hrs hN (fun d v hv=>(look_frOf args 0 d v hv).2) (by rw [hM];exact Has.start _) h).mono fun e w' ⟨v,H',h1,h2,h3⟩=>⟨by rw [h1,h2],by have:=h3.ext;rw [hM] at this;exact this.ext⟩
theorem q_thenN {K:Fr→Hp→Prop} (h:K F H):thenQ K Q .normal F H:=h
theorem q_thenR {K:Fr→Hp→Prop} (h:Q .ret F H):thenQ K Q .ret F H:=h
theorem q_thenE {K:Fr→Hp→Prop} {i:Nat} (h:Q (.exit i) F H):thenQ K Q (.exit i) F H:=h
theorem q_blockN {id:Nat} (h:Q .normal F H):blockQ id Q .normal F H:=h
theorem q_blockR {id:Nat} (h:Q .ret F H):blockQ id Q .ret F H:=h
theorem q_blockE {i id:Nat} (hb:Nat.beq i id=true) (h:Q .normal F H):blockQ id Q (.exit i) F H:=by
 simp only [blockQ,hb];exact h
theorem q_blockO {i id:Nat} (hb:Nat.beq i id=false) (h:Q (.exit i) F H):blockQ id Q (.exit i) F H:=by
 simp only [blockQ,hb];exact h
theorem t_id {k:Code} (h:T c S k Q F H):T c S k Q F H:=h
theorem tl_id {l:List Oper} (h:TL c ops l R F H):TL c ops l R F H:=h
theorem gx_id {l:List Oper} {R:Fr→Prop} (h:GX c ops l R F H):GX c ops l R F H:=h
theorem os_id {K:Value→Hp→Prop} (h:OS c o F H K):OS c o F H K:=h
theorem ox_id {K:Value→Hp→Prop} (h:OX c o F H K):OX c o F H K:=h
theorem os_x {K:Value→Hp→Prop} (_:isX o.op=true) (h:OX c o F H K):OS c o F H K:=.ofX h
end
theorem P0 {b:Nat} {C:List Value} {g:Tg} {H:Hp}:Pick ((b,C,g)::H) b C g H:=.head b C g H
theorem P1 {x:Nat×List Value×Tg} {H H':Hp} {b:Nat} {C:List Value} {g:Tg} (h:Pick H b C g H'):Pick (x::H) b C g (x::H'):=.tail h
def KeepB (Mi:Nat→Prop) (W W':World):Prop:=∀ b,Mi b→W'.heap[b]?=W.heap[b]?
structure Blks (n:Nat) (H:Hp) (W:World):Prop where
 blk:∀ x∈H,n≤x.1∧Blk W x.1 x.2.1 x.2.2
 nodup:(H.map Prod.fst).Nodup
def NoM (H:Hp):Prop:=∀ x∈H,∀ t L,x.2.2≠mapTg t L
theorem NoM.nil:NoM []:=fun x hx=>(List.not_mem_nil hx).elim
theorem NoM.none {b:Nat} {C:List Value} {H:Hp} (h:NoM H):NoM ((b,C,none)::H):=fun x hx t L e=>by
 rcases List.mem_cons.1 hx with rfl|hx
 · simp [mapTg] at e
 · exact h x hx t L e
theorem NoM.some {b t0 s cap:Nat} {C:List Value} {H:Hp} (h:NoM H) (hs:Nat.beq s 0=false):NoM ((b,C,some (t0,s,cap))::H):=fun x hx t L e=>by
 rcases List.mem_cons.1 hx with rfl|hx
 · simp only [mapTg,Option.some.injEq,Prod.mk.injEq] at e
   rw [e.2.1] at hs
   simp at hs
 · exact h x hx t L e
theorem NoM.app {H G:Hp} (h:NoM H) (k:NoM G):NoM (H++G):=fun x hx=>(List.mem_append.1 hx).elim (h x) (k x)
theorem NoM.cells {H:Hp} (n:NoM H) {x:Nat×List Value×Tg} (hx:x∈H) {W:World} (h:Blk W x.1 x.2.1 x.2.2):∃ c t,W.heap[x.1]?=Option.some (.cells c t (0,0)):=by
 rcases h with ⟨c,t,h,_⟩|⟨_,t,L,e,_⟩
 · exact ⟨c,t,h⟩
 · exact (n x hx t L e).elim
theorem Has.grown {w0:World} {M:Ms} {H:Hp} {W W':World} {row:Option Nat} (nm:NoM H) (h:Has w0 M H W) (hg:W.grownBy W' row) (hr:∀ r,row=some r→w0.heap.size≤r∧r∉M.dk∧∃ o:Obj,W.heap[r]?=some o∧o.isCells=false):Has w0 M H W':=by
 refine ⟨⟨hg.os.trans h.ext.os,hg.tape.trans h.ext.tape,hg.output.trans h.ext.output,Nat.le_trans h.ext.size hg.size,fun b hb hm=>?_⟩,fun x hx=>⟨(h.blk x hx).1,(h.blk x hx).2.same (hg.block _ (h.blk x hx).2.lt fun e=>?_)⟩,h.nodup,h.marks.1,fun k hk=>⟨(h.marks.2 k hk).1,?_⟩⟩
 · rw [hg.block b (Nat.lt_of_lt_of_le hb h.ext.size) (fun e=>by have:=(hr b e.symm).1;omega)]
   exact h.ext.block b hb hm
 · obtain ⟨_,_,o,ho,hc⟩:=hr _ e.symm
   obtain ⟨c,t,h1⟩:=nm.cells hx (h.blk x hx).2
   rw [h1] at ho;cases ho;cases hc
 · rw [hg.block k (mark_lt (h.marks.2 k hk).2) (fun e=>(hr k e.symm).2.1 hk)]
   exact (h.marks.2 k hk).2
theorem Blks.grown {n:Nat} {H:Hp} {W W':World} {row:Option Nat} (nm:NoM H) (h:Blks n H W) (hg:W.grownBy W' row) (hr:∀ r,row=some r→∃ o:Obj,W.heap[r]?=some o∧o.isCells=false):Blks n H W':=
 ⟨fun x hx=>⟨(h.blk x hx).1,(h.blk x hx).2.same (hg.block _ (h.blk x hx).2.lt fun e=>by
   obtain ⟨o,ho,hc⟩:=hr _ e.symm
   obtain ⟨c,t,h1⟩:=nm.cells hx (h.blk x hx).2
   rw [h1] at ho;cases ho;cases hc)⟩,h.nodup⟩
theorem Blk.ne {W:World} {b b' e s c e' s' c':Nat} {C C':List Value} (h:Blk W b C (some (e,s,c))) (h':Blk W b' C' (some (e',s',c'))) (hne:e≠e') (hs:s≠0:=by decide) (hs':s'≠0:=by decide):b≠b':=by
 rintro rfl
 obtain ⟨x,t,h1,_,h2,_⟩|⟨_,t,L,h1,_⟩:=h
 rotate_left
 · simp only [mapTg,Option.some.injEq,Prod.mk.injEq] at h1
   exact (hs h1.2.1).elim
 obtain ⟨x',t',h1',_,h2',_⟩|⟨_,t',L,h1',_⟩:=h'
 rotate_left
 · simp only [mapTg,Option.some.injEq,Prod.mk.injEq] at h1'
   exact (hs' h1'.2.1).elim
 rw [h1] at h1'
 cases h1'
 exact hne (h2.symm.trans h2')
theorem ExtM.keeps {M:List Nat} {W W':World} {n:Nat} (h:ExtM M W W') (hc:∀ b∈M,∃ c t,W.heap[b]?=some (.cells c t (0,0))):KeepsFrom n W W':=
 ⟨h.size,fun k o hk h0 ho=>(h.block k (mark_lt h0) (fun hm=>by obtain ⟨c,t,h1⟩:=hc k hm;rw [h1] at h0;cases h0;cases ho)).trans h0⟩
theorem Has.cells {w0:World} {M:Ms} {H:Hp} {W:World} (h:Has w0 M H W) {b:Nat} (hb:b∈H.map Prod.fst):(∃ c t,W.heap[b]?=some (.cells c t (0,0)))∨∃ es ck,W.heap[b]?=some (.map es ck):=by
 obtain ⟨x,hx,rfl⟩:=List.mem_map.1 hb
 rcases (h.blk x hx).2 with ⟨c,t,h1,_⟩|⟨_,t,L,_,es,ck,h1,_⟩
 · exact .inl ⟨c,t,h1⟩
 · exact .inr ⟨es,ck,h1⟩
theorem Has.comp {w0:World} {M D M':List Nat} {H H':Hp} {W W':World} (h:Has w0 ⟨M,D⟩ H W) (k:Has W ⟨M',[]⟩ H' W') (hM:∀ b∈M',b∈H.map Prod.fst):Has w0 ⟨M,D⟩ H' W':=by
 have own:∀ b∈M',w0.heap.size≤b∨b∈M:=fun b hb=>by
   obtain ⟨x,hx,rfl⟩:=List.mem_map.1 (hM b hb)
   exact (h.blk x hx).1
 refine ⟨⟨k.ext.os.trans h.ext.os,k.ext.tape.trans h.ext.tape,k.ext.output.trans h.ext.output,Nat.le_trans h.ext.size k.ext.size,fun b hb hm=>?_⟩,fun x hx=>⟨?_,(k.blk x hx).2⟩,k.nodup,h.marks.1,fun m hm=>⟨(h.marks.2 m hm).1,?_⟩⟩
 · rw [k.ext.block b (Nat.lt_of_lt_of_le hb h.ext.size) (fun e=>by rcases own b e with h1|h1;omega;exact hm h1)]
   exact h.ext.block b hb hm
 · rcases (k.blk x hx).1 with h1|h1
   · exact .inl (Nat.le_trans h.ext.size h1)
   · exact own _ h1
 · have h1:=(h.marks.2 m hm).2
   rw [k.ext.block m (mark_lt h1) (fun e=>by
     rcases h.cells (hM m e) with ⟨c,t,h2⟩|⟨c,t,h2⟩<;>(rw [h2] at h1;cases h1))]
   exact h1
theorem Has.join {w0:World} {M:Ms} {H B:Hp} {W:World} {n:Nat} (h:Has w0 M H W) (hb:Blks n B W) (hn:w0.heap.size≤n) (hd:∀ x∈B,∀ y∈H,x.1≠y.1):Has w0 M (B++H) W:=by
 refine ⟨h.ext,fun x hx=>?_,?_,h.marks⟩
 · rcases List.mem_append.1 hx with hx|hx
   · exact ⟨.inl (Nat.le_trans hn (hb.blk x hx).1),(hb.blk x hx).2⟩
   · exact h.blk x hx
 · rw [List.map_append,List.nodup_append]
   refine ⟨hb.nodup,h.nodup,fun a ha b hbm=>?_⟩
   obtain ⟨x,hx,rfl⟩:=List.mem_map.1 ha
   obtain ⟨y,hy,rfl⟩:=List.mem_map.1 hbm
   exact hd x hx y hy
theorem Has.self {w0:World} {M:Ms} {H:Hp} {W:World} (h:Has w0 M H W):Has W ⟨H.map Prod.fst,[]⟩ H W:=
 ⟨ExtM.refl _ _,fun x hx=>⟨.inr (List.mem_map.2 ⟨x,hx,rfl⟩),(h.blk x hx).2⟩,h.nodup,List.nodup_nil,fun k hk=>(List.not_mem_nil hk).elim⟩
def parF:List (Nat×Value)→Fr→Fr
 | [],F=>F
 | (p,v)::l,F=>parF l ((p,v)::F)
theorem Frm.par {D:List Nat} {N:Nat}:∀ (l:List (Nat×Value)) {F:Fr} {tmps:Array Value},(∀ p∈l,Nat.blt p.1 N=true)→Frm D N F ⟨tmps,D.map dmark⟩→Frm [] N (parF l F) ⟨l.foldl (fun t p=>t.setIfInBounds p.1 p.2) tmps,[]⟩
 | [],F,tmps,_,h=>⟨h.size,rfl,h.at_⟩
 | (p,v)::l,F,tmps,hl,h=>by
   have:=h.put (hl (p,v) (List.mem_cons_self ..)) v
   exact Frm.par (D:=D) l (fun q hq=>hl q (List.mem_cons_of_mem _ hq)) this
def QB {α ι κ:Type} (hp:ι→Hp) (Pi:List α→ι→Prop) (hl:κ→Hp) (Pl:Code→List α→κ→Prop) (xs:List α):QS
 | .normal,_,H'=>∃ j,Pi xs j∧HpSub H' (hp j)
 | .ret,_,H'=>∃ j,Pl .ret xs j∧HpSub H' (hl j)
 | .exit id,_,H'=>∃ j,Pl (.exit id) xs j∧HpSub H' (hl j)
 | _,_,_=>False
section
variable {c:Cx} {F:Fr} {H:Hp} {g:Operand} {ps:Array Tmp} {assign body:Code} {α ι κ β:Type} {Q:QS}
def SL0 (c:Cx):Code→(Fr→Hp→Prop)→Fr→Hp→Prop
 | .region _ ops false,R,F,H=>noDefer ops=true∧TL c ops ops.toList R F H
 | .seq x y,R,F,H=>SL0 c x (fun F H=>SL0 c y R F H) F H
 | _,_,_,_=>False
theorem sl0_region {id:Nat} {l:List Oper} {R:Fr→Hp→Prop} (h1:noDefer ⟨l⟩=true) (h2:TL c ⟨l⟩ l R F H):SL0 c (.region id ⟨l⟩ false) R F H:=⟨h1,h2⟩
theorem sl0_seq {x y:Code} {R:Fr→Hp→Prop} (h:SL0 c x (fun F H=>SL0 c y R F H) F H):SL0 c (.seq x y) R F H:=h
theorem SL0.wpIn {l m:Nat}:∀ (k:Code) {R:Fr→Hp→Prop} {F:Fr} {H:Hp},SL0 c k R F H→∀ (D:List Nat) (a:Act) (w:World),Frm D c.N F a→Has c.w0 ⟨c.M,D⟩ H w →
   k.wpIn (Fence.wide.inRound l) m c.P (fun e a' w'=>e=.normal∧∃ F' H',R F' H'∧Frm D c.N F' a'∧Has c.w0 ⟨c.M,D⟩ H' w') a w
 | .region _ ops false,R,F,H,h,D,a,w,ha,hw=>by
   have:=h.2 0 rfl D a w ha hw
   exact wpIn_region (wpOpsIn_of_chain (R:=fun a' W'=>∃ F' H',R F' H'∧Frm D c.N F' a'∧Has c.w0 ⟨c.M,D⟩ H' W') h.1 (fun a' W' he=>⟨rfl,he⟩) _ _ _ (by rw [List.range_eq_range'];exact this))
 | .seq x y,R,F,H,h,D,a,w,ha,hw=>by
   refine wpIn_seq (wpIn_mono (SL0.wpIn x h D a w ha hw) fun e a' w' ⟨he,F',H',h1,h2,h3⟩=>?_)
   subst he
   exact SL0.wpIn y h1 D a' w' h2 h3
 | .region _ _ true,_,_,_,h,_,_,_,_,_=>h.elim
 | .skip,_,_,_,h,_,_,_,_,_=>h.elim
 | .cond _ _ _,_,_,_,h,_,_,_,_,_=>h.elim
 | .block _ _,_,_,_,h,_,_,_,_,_=>h.elim
 | .loop _,_,_,_,h,_,_,_,_,_=>h.elim
 | .rangeFunc _ _ _ _,_,_,_,h,_,_,_,_,_=>h.elim
 | .exit _,_,_,_,h,_,_,_,_,_=>h.elim
 | .scope _,_,_,_,h,_,_,_,_,_=>h.elim
 | .label _,_,_,_,h,_,_,_,_,_=>h.elim
 | .goto _,_,_,_,h,_,_,_,_,_=>h.elim
 | .ret,_,_,_,h,_,_,_,_,_=>h.elim
 | .refuse _,_,_,_,h,_,_,_,_,_=>h.elim
def MiOf (c:Cx) (hk:Hp) (b:Nat):Prop:=(b<c.w0.heap.size∧b∉c.M)∨b∈hk.map Prod.fst
structure RangeOk (c:Cx) (F:Fr) (ns:List Nat) (hk:Hp) (ps:Array Tmp) (assign body:Code) (m:Nat) (encs:α→List Value) (N:Nat)
   (hp:ι→Hp) (Pi:List α→ι→Prop) (bx:α→β→Hp) (fx:α→β→Fr) (hl:κ→Hp) (Pl:Code→List α→κ→Prop):Prop where
 size:∀ x,(encs x).length=ps.size
 slots:(ps.toList.all fun p=>Nat.blt p c.N)=true
 assign_:∀ (x:α) (W:World),SL0 { c with w0:=W,M:=[] } assign (fun F' H'=>∃ bs,FrSub F' (fx x bs)∧HpSub H' (bx x bs)) (parF (ps.toList.zip (encs x)) F) []
 disj:∀ x bs i n W D,Blks n (bx x bs) W→Has c.w0 ⟨c.M,D⟩ (hp i++hk) W→(∀ b∈ns,b<n)→∀ y∈bx x bs,∀ z∈hp i++hk,y.1≠z.1
 body_:∀ (l:Nat) (pre:List α) (x:α) (i:ι) (bs:β) (W:World) (D:List Nat),Pi pre i→Has c.w0 ⟨c.M,D⟩ (bx x bs++hp i++hk) W→pre.length<N→(∃ r,W.heap[l]?=some (.loop r)) →
   T { c with w0:=W,M:=(bx x bs++hp i).map Prod.fst } (WS.round c.P l m) body (QB hp Pi hl Pl (pre++[x])) (fx x bs) (bx x bs++hp i)
 nob:∀ x bs,NoM (bx x bs)
 nop:∀ i,NoM (hp i)
 nok:NoM hk
 nol:∀ j,NoM (hl j)
theorem range_assign {m N:Nat} {ns:List Nat} {hk:Hp} {encs:α→List Value} {hp:ι→Hp} {Pi:List α→ι→Prop} {bx:α→β→Hp} {fx:α→β→Fr} {hl:κ→Hp} {Pl:Code→List α→κ→Prop}
   (R:RangeOk c F ns hk ps assign body m encs N hp Pi bx fx hl Pl) {D:List Nat} {a:Act} (ha:Frm D c.N F a) (l:Nat) (x:α) (W:World) (n0:Nat) (hn0:n0≤W.heap.size) (K:Act→World→Prop)
   (hK:∀ a' W' bs,Ext W W'→Frm [] c.N (fx x bs) a'→Blks n0 (bx x bs) W'→K a' W') :
   assign.wpIn (Fence.wide.inRound l) m c.P (Exit.then K (fun _ _ _=>False)) { tmps:=(ps.zip ⟨encs x⟩).foldl (fun t (p,v)=>t.setIfInBounds p v) a.tmps,defers:=[] } W:=by
 have hF:Frm [] c.N (parF (ps.toList.zip (encs x)) F) { tmps:=(ps.zip ⟨encs x⟩).foldl (fun t (p,v)=>t.setIfInBounds p v) a.tmps,defers:=[] }:=by
   have h1:Frm D c.N F ⟨a.tmps,D.map dmark⟩:=⟨ha.size,rfl,ha.at_⟩
   have:=Frm.par (ps.toList.zip (encs x)) (fun p hp=>by
     have h2:=List.all_eq_true.1 R.slots
     exact h2 p.1 (List.of_mem_zip hp).1) h1
   have e:(ps.zip ⟨encs x⟩).foldl (fun t (p,v)=>t.setIfInBounds p v) a.tmps=(ps.toList.zip (encs x)).foldl (fun t p=>t.setIfInBounds p.1 p.2) a.tmps:=by
     rw [← Array.foldl_toList,Array.toList_zip]
   rw [e];exact this
 have h0:Has W ⟨[],[]⟩ [] W:=Has.start W
 refine wpIn_mono (SL0.wpIn assign (R.assign_ x W) [] _ W hF h0) fun e a' W' he=>?_
 obtain ⟨rfl,F',H',⟨bs,h1,h2⟩,h3,h4⟩:=he
 have h5:=h4.sub h2
 refine hK a' W' bs h4.ext.ext (h3.sub h1) ⟨fun y hy=>⟨?_,(h5.blk y hy).2⟩,h5.nodup⟩
 rcases (h5.blk y hy).1 with h6|h6
 · exact Nat.le_trans hn0 h6
 · exact (List.not_mem_nil h6).elim
theorem Has.comp2 {w0:World} {M D:List Nat} {X hk H':Hp} {W W':World} (h:Has w0 ⟨M,D⟩ (X++hk) W) (k:Has W ⟨X.map Prod.fst,[]⟩ H' W'):Has w0 ⟨M,D⟩ (H'++hk) W':=by
 have h1:=h.comp (H':=H') k (fun b hb=>by rw [List.map_append];exact List.mem_append_left _ hb)
 have hnd:=h.nodup
 rw [List.map_append,List.nodup_append] at hnd
 have kept:∀ x∈hk,x.1∉X.map Prod.fst:=fun x hx hm=>hnd.2.2 _ hm _ (List.mem_map.2 ⟨x,hx,rfl⟩) rfl
 refine ⟨h1.ext,fun x hx=>?_,?_,h1.marks⟩
 · rcases List.mem_append.1 hx with hx|hx
   · exact h1.blk x hx
   · have h2:=h.blk x (List.mem_append_right _ hx)
     exact ⟨h2.1,h2.2.same (k.ext.block _ h2.2.lt (kept x hx))⟩
 · rw [List.map_append,List.nodup_append]
   refine ⟨k.nodup,hnd.2.1,fun a ha b hb=>?_⟩
   obtain ⟨x,hx,rfl⟩:=List.mem_map.1 ha
   obtain ⟨y,hy,rfl⟩:=List.mem_map.1 hb
   intro e
   have h2:=(h.blk y (List.mem_append_right _ hy)).2.lt
   rcases (k.blk x hx).1 with h3|h3
   · omega
   · exact kept y hy (e ▸ h3)
theorem mi_lt {hk H X:Hp} {D:List Nat} {w:World} (hw:Has c.w0 ⟨c.M,D⟩ H w) (hH:HpSub H (X++hk)) (b:Nat) (hb:MiOf c hk b):b<w.heap.size:=by
 rcases hb with hb|hb
 · exact Nat.lt_of_lt_of_le hb.1 hw.ext.size
 · obtain ⟨y,hy,rfl⟩:=List.mem_map.1 hb
   exact ((hw.sub hH).blk y (List.mem_append_right _ hy)).2.lt
end
/-! Calls that hand out memory -/
theorem Has.call {w0:World} {M D:List Nat} {H H':Hp} {w w':World} (h:Has w0 ⟨M,D⟩ H w) (k:Has w ⟨[],[]⟩ H' w'):Has w0 ⟨M,D⟩ (H'++H) w':=by
 have h':=h.grow k.ext.ext
 have own:∀ x∈H',w.heap.size≤x.1:=fun x hx=>by
   rcases (k.blk x hx).1 with h1|h1
   · exact h1
   · exact (List.not_mem_nil h1).elim
 refine ⟨h'.ext,fun x hx=>?_,?_,h'.marks⟩
 · rcases List.mem_append.1 hx with hx|hx
   · exact ⟨.inl (Nat.le_trans h.ext.size (own x hx)),(k.blk x hx).2⟩
   · exact h'.blk x hx
 · rw [List.map_append,List.nodup_append]
   refine ⟨k.nodup,h.nodup,fun a ha b hb=>?_⟩
   obtain ⟨x,hx,rfl⟩:=List.mem_map.1 ha
   obtain ⟨y,hy,rfl⟩:=List.mem_map.1 hb
   have h1:=own x hx
   have h2:=(h.blk y hy).2.lt
   omega
section
variable {c:Cx} {F:Fr} {H:Hp} {K:Value→Hp→Prop} {d:Option Tmp} {ty:TypeId} {pos:String} {af:Array Edge} {g:Option (Nat×Bool)}
theorem os_callF {f:Operand} {args:Array Operand} {T:Array TypeId} {k:Nat} {fst cap vs:List Value} {PV:Value→Hp→Prop} (hf:ev F f=some (.func (.func k) ⟨fst⟩ ⟨cap⟩)) (hc:∀ (a:Array Value) (w:World),(callFunc k a).run c.P w=.ok (.enter k a) w)
   (ha:evs F args.toList=some vs) (h:∀ D w,Has c.w0 ⟨c.M,D⟩ H w→Calls c.P k ⟨fst++vs++cap⟩ w fun e w'=>∃ v H',e=.returned v∧PV v H'∧Has w ⟨[],[]⟩ H' w')
   (hk:∀ v H',PV v H'→K v (H'++H)):OS c ⟨d,.call ⟨.value f,args,T⟩,ty,pos,af,g⟩ F H K:=
 os_call hf hc ha fun D w hw=>(h D w hw).mono fun e w' ⟨v,H',h1,h2,h3⟩=>⟨v,H'++H,h1,hk v H' h2,hw.call h3⟩
end
theorem Blk.rows {w:World} {b n k:Nat} {rows:List (List Value)} {g:Tg} (h:Blk w b rows.flatten g) (hl:rows.length=n) (hk:∀ r∈rows,r.length=k):RdS w k (some ⟨b,0,none⟩) n rows:=by
 refine ⟨hl,fun _=>⟨b,0,rfl,h.lt,fun i x hx=>⟨hk x (List.mem_of_getElem? hx),fun j u hu=>?_⟩⟩⟩
 refine h.cell ?_
 rw [Nat.zero_add]
 clear h hl
 induction rows generalizing i with
 | nil=>simp at hx
 | cons r rows ih=>
   have hr:=hk r (List.mem_cons_self ..)
   cases i with
   | zero=>
     obtain rfl:r=x:=by simpa using hx
     have hj:=(List.getElem?_eq_some_iff.1 hu).1
     simp only [List.flatten_cons,Nat.zero_mul,Nat.zero_add]
     rw [List.getElem?_append_left hj];exact hu
   | succ i=>
     have:=ih (fun r hr=>hk r (List.mem_cons_of_mem _ hr)) i (by simpa using hx)
     simp only [List.flatten_cons]
     rw [List.getElem?_append_right (by rw [hr,Nat.succ_mul];omega)]
     rw [← this];congr 1;rw [hr,Nat.succ_mul];omega
theorem Has.cellAt {w0:World} {M:Ms} {H H':Hp} {w:World} {b o:Nat} {C:List Value} {g:Tg} {v:Value} (h:Has w0 M H w) (p:Pick H b C g H') (ho:C[o]?=some v):w.cell? ⟨b,o,none⟩=some v:=(h.blk _ p.mem).2.cell ho
theorem Has.ne {w0:World} {M:Ms} {H:Hp} {w:World} (h:Has w0 M H w):(H.map Prod.fst).Nodup:=h.nodup
theorem Has.off {w0:World} {M:Ms} {X K:Hp} {w:World} (h:Has w0 M (X++K) w) {b:Nat} (hb:b∈K.map Prod.fst):b∉X.map Prod.fst:=fun hm=>by
 have:=h.nodup
 rw [List.map_append,List.nodup_append] at this
 exact this.2.2 _ hm _ hb rfl
theorem Has.oldc {w0:World} {M:Ms} {H:Hp} {w:World} {b o:Nat} {v:Value} (h:Has w0 M H w) (hc:w0.cell? ⟨b,o,none⟩=some v) (hm:b∉M.wr):w.cell? ⟨b,o,none⟩=some v:=by
 rw [World.cell?_of_block (w:=w0) (a:=⟨b,o,none⟩) (h.ext.block b (cell_lt hc) hm)]
 exact hc
theorem RdS.extM {M:List Nat} {w w':World} {k:Nat} {A:Option Addr} {n:Nat} {xs:List (List Value)} (h:RdS w k A n xs) (he:ExtM M w w') (hA:0<n→∀ b o,A=some ⟨b,o,none⟩→b∉M):RdS w' k A n xs:=
 ⟨h.len,fun hn=>by
   obtain ⟨b,o,rfl,hb,hc⟩:=h.at_ hn
   refine ⟨b,o,rfl,Nat.lt_of_lt_of_le hb he.size,fun i x hx=>⟨(hc i x hx).1,fun j u hu=>?_⟩⟩
   have:=(hc i x hx).2 j u hu
   rw [World.cell?_of_block (w:=w) (a:=⟨b,o+i*k+j,none⟩) (he.block b hb (hA hn b o rfl))]
   exact this⟩
theorem isNew.extM {M:List Nat} {w w':World} {b:Nat} {C:Array Value} (h:isNew w b C) (he:ExtM M w w') (hm:b∉M):isNew w' b C:=
 ⟨fun o=>(World.cell?_of_block (w:=w) (a:=⟨b,o,none⟩) (he.block b h.2.2 hm)).trans (h.1 o),fun o=>(World.frozen?_of_block (w:=w) (a:=⟨b,o,none⟩) (he.block b h.2.2 hm)).trans (h.2.1 o),Nat.lt_of_lt_of_le h.2.2 he.size⟩
theorem enterF {c:Cx} {k:FuncId} {fn:Func} {code:Code} {rs:List ResultVar} {args:List Value} {PV:Value→Hp→Prop} (hf:c.P.funcs[k]?=some fn) (hb:fn.body=some code) (hrs:fn.results=⟨rs⟩) (hN:c.N=args.length+(fn.ntmps-args.length)) (hM:c.M=[])
   (h:T c (WS.own c.P) code (endQ c rs fun v H=>∃ H',PV v H'∧HpSub H H') (frOf 0 args) []):Calls c.P k ⟨args⟩ c.w0 fun e w'=>∃ v H',e=.returned v∧PV v H'∧Has c.w0 ⟨[],[]⟩ H' w':=
 (enter hf hb hrs hN (fun d v hv=>(look_frOf args 0 d v hv).2) (by rw [hM];exact Has.start _) h).mono fun e w' ⟨v,H',h1,⟨G,h2,h3⟩,h4⟩=>⟨v,G,h1,h2,by rw [hM] at h4;exact h4.sub h3⟩
theorem Norm.self:∀ (l:List Value),Norm l l
 | []=>.nil rfl
 | _::l=>.cons rfl (Norm.self l)
def flatV:Value→Bool
 | .agg _=>false
 | _=>true
theorem flatV_cells {v:Value} (h:flatV v=true):cellsL v=[v]:=by
 cases v<;>first|rfl|cases h
def pickV:List (Nat×Value)→Nat→Option (List Value)
 | [],_=>some []
 | (j,v)::l,i=>match Nat.beq j i && flatV v,pickV l (i+1) with
   | true,some r=>some (v::r)
   | _,_=>none
theorem pickV_fill:∀ (vs:List (Nat×Value)) (k:Nat) (C r:List Value),pickV vs k=some r→k+vs.length=C.length→r.length=vs.length∧fillL (fun i=>some (i*1,1)) C vs=some (C.take k++r)
 | [],k,C,r,h,hl=>by
   simp only [pickV,Option.some.injEq] at h
   subst h
   simp at hl
   subst hl
   exact ⟨rfl,by simp [fillL]⟩
 | (j,v)::l,k,C,r,h,hl=>by
   simp only [pickV] at h
   split at h
   · rename_i r' h1 h2
     simp only [Bool.and_eq_true] at h1
     have hj:j=k:=Nat.eq_of_beq_eq_true h1.1
     subst hj
     cases h
     have hC:(setL C j [v]).length=C.length:=setL_length _ _ _
     simp only [List.length_cons] at hl
     obtain ⟨g1,g2⟩:=pickV_fill l (j+1) (setL C j [v]) r' h2 (by omega)
     refine ⟨by simp [g1],?_⟩
     simp only [fillL,flatV_cells h1.2,Nat.mul_one]
     have hb:Nat.ble (j+1) C.length=true:=Nat.ble_eq_true_of_le (by omega)
     have hb2:(Nat.beq [v].length 1 && Nat.ble (j+1) C.length)=true:=by rw [hb];rfl
     rw [hb2]
     simp only [Nat.mul_one] at g2
     rw [g2]
     simp only [setL]
     congr 1
     rw [List.take_add_one,List.getElem?_set_self (by omega),List.take_set_of_le (Nat.le_refl _)]
     simp
   · cases h
section
variable {c:Cx} {F:Fr} {H:Hp} {K:Value→Hp→Prop} {d:Option Tmp} {ty:TypeId} {pos:String} {af:Array Edge} {g:Option (Nat×Bool)}
theorem ox_buildSlice1 {t:Nat} {a0 a1:Bool} {s0 e len:Nat} {z0 z1 r:List Value} {k1:TyK} {parts:List (Nat×Operand)} {vs:List (Nat×Value)} (ht:tyAt c.tys t=some ⟨a0,s0,z0,.slice e⟩) (he:tyAt c.tys e=some ⟨a1,1,z1,k1⟩) (hp:evp F parts=some vs)
   (hf:pickV vs 0=some r) (hb:Nat.ble len 1000000=true) (hs:Nat.beq vs.length len=true)
   (k:∀ b,K (.slice (some ⟨b,0,none⟩) len len) ((b,r,some (e,1,len))::H)):OX c ⟨d,.buildSlice t len ⟨parts⟩,ty,pos,af,g⟩ F H K:=by
 have hl:vs.length=len:=Nat.eq_of_beq_eq_true hs
 obtain ⟨h1,h2⟩:=pickV_fill vs 0 ((List.range (len*1)).map fun j=>z1.toArray[j % z1.toArray.size]!) r hf (by simp [hl])
 exact ox_buildSlice ht he hp h2 (Norm.self _) (by simpa using hb) (by rw [List.take_zero,List.nil_append,h1,hl,Nat.mul_one];exact Nat.beq_refl _) rfl (fun b=>by simpa using k b)
end
theorem setL_eq:∀ (l C:List Value) (o:Nat),o+l.length≤C.length→setL C o l=C.take o++l++C.drop (o+l.length)
 | [],C,o,_=>by simp [setL]
 | v::l,C,o,h=>by
   simp only [List.length_cons] at h
   have ih:=setL_eq l (C.set o v) (o+1) (by simp;omega)
   simp only [setL]
   rw [ih,List.take_add_one,List.getElem?_set_self (by omega),List.take_set_of_le (Nat.le_refl _),List.drop_set_of_lt (by omega)]
   simp only [List.length_cons,Option.toList,List.append_assoc,List.cons_append,List.nil_append]
   rw [show o+1+l.length=o+(l.length+1) by omega]
def pick2:List (Nat×Value)→Nat→Option (List Value)
 | [],_=>some []
 | (j,v)::l,i=>match Nat.beq j i,v,pick2 l (i+1) with
   | true,.agg ⟨[a,b]⟩,some r=>some (a::b::r)
   | _,_,_=>none
theorem pick2_fill:∀ (vs:List (Nat×Value)) (k:Nat) (C r:List Value),pick2 vs k=some r→(k+vs.length)*2=C.length→r.length=vs.length*2∧fillL (fun i=>some (i*2,2)) C vs=some (C.take (k*2)++r)
 | [],k,C,r,h,hl=>by
   simp only [pick2,Option.some.injEq] at h
   subst h
   simp at hl
   exact ⟨rfl,by simp [fillL,hl]⟩
 | (j,v)::l,k,C,r,h,hl=>by
   simp only [pick2] at h
   split at h
   · rename_i a b r' h1 h2
     have hj:j=k:=Nat.eq_of_beq_eq_true h1
     subst hj
     cases h
     simp only [List.length_cons] at hl
     have hC:(setL C (j*2) [a,b]).length=C.length:=setL_length _ _ _
     obtain ⟨g1,g2⟩:=pick2_fill l (j+1) (setL C (j*2) [a,b]) r' h2 (by omega)
     refine ⟨by simp [g1];omega,?_⟩
     have hb2:(Nat.beq (cellsL (.agg ⟨[a,b]⟩)).length 2 && Nat.ble (j*2+2) C.length)=true:=by
       rw [Nat.ble_eq_true_of_le (by omega)];rfl
     simp only [fillL]
     rw [hb2]
     simp only
     rw [show cellsL (.agg ⟨[a,b]⟩)=[a,b] from rfl,g2,setL_eq _ _ _ (by simp;omega)]
     have ht:(C.take (j*2)++[a,b]++C.drop (j*2+[a,b].length)).take ((j+1)*2)=C.take (j*2)++[a,b]:=by
       rw [List.take_append_of_le_length (by simp;omega)]
       exact List.take_of_length_le (by simp;omega)
     rw [ht]
     simp
   · cases h
section
variable {c:Cx} {F:Fr} {H:Hp} {K:Value→Hp→Prop} {d:Option Tmp} {ty:TypeId} {pos:String} {af:Array Edge} {g:Option (Nat×Bool)}
theorem ox_buildSlice2 {t:Nat} {a0 a1:Bool} {s0 e len:Nat} {z0 z1 r:List Value} {k1:TyK} {parts:List (Nat×Operand)} {vs:List (Nat×Value)} (ht:tyAt c.tys t=some ⟨a0,s0,z0,.slice e⟩) (he:tyAt c.tys e=some ⟨a1,2,z1,k1⟩) (hp:evp F parts=some vs)
   (hf:pick2 vs 0=some r) (hb:Nat.ble (len*2) 1000000=true) (hs:Nat.beq vs.length len=true)
   (k:∀ b,K (.slice (some ⟨b,0,none⟩) len len) ((b,r,some (e,2,len))::H)):OX c ⟨d,.buildSlice t len ⟨parts⟩,ty,pos,af,g⟩ F H K:=by
 have hl:vs.length=len:=Nat.eq_of_beq_eq_true hs
 obtain ⟨h1,h2⟩:=pick2_fill vs 0 ((List.range (len*2)).map fun j=>z1.toArray[j % z1.toArray.size]!) r hf (by simp [hl])
 exact ox_buildSlice ht he hp h2 (Norm.self _) hb (by rw [Nat.zero_mul,List.take_zero,List.nil_append,h1,hl];exact Nat.beq_refl _) rfl (fun b=>by simpa using k b)
end
def InU (z:Int):Prop:=0≤z∧z≤18446744073709551615
theorem wrapU {z:Int} (h:InU z):IntKind.u64.wrap z=z:=IntWalk.u64_in _ h
section
variable {c:Cx} {F:Fr} {H:Hp} {d:Option Tmp} {ty t t':TypeId} {pos:String} {af:Array Edge} {g:Option (Nat×Bool)} {x y:Operand} {m n:Int}
theorem oq_addU (hx:ev F x=some (.int .u64 m)) (hy:ev F y=some (.int .u64 n)) (hr:InU (m+n)):OQ c ⟨d,.binOp .add t x y t',ty,pos,af,g⟩ F H (.int .u64 (m+n)):=.of fun D a w ha _=>by
 have:=wrapU hr
 simp [execOp,ha.ev hx,ha.ev hy,eqGuard,binOp,Op.intArith,go_sem,this]
theorem oq_mulU (hx:ev F x=some (.int .u64 m)) (hy:ev F y=some (.int .u64 n)) (hr:InU (m*n)):OQ c ⟨d,.binOp .mul t x y t',ty,pos,af,g⟩ F H (.int .u64 (m*n)):=.of fun D a w ha _=>by
 have:=wrapU hr
 simp [execOp,ha.ev hx,ha.ev hy,eqGuard,binOp,Op.intArith,go_sem,this]
theorem oq_quoU (hx:ev F x=some (.int .u64 m)) (hy:ev F y=some (.int .u64 n)) (h0:n≠0) (hr:InU (m.tdiv n)):OQ c ⟨d,.binOp .quo t x y t',ty,pos,af,g⟩ F H (.int .u64 (m.tdiv n)):=.of fun D a w ha _=>by
 have:=wrapU hr
 simp [execOp,ha.ev hx,ha.ev hy,eqGuard,binOp,Op.intDiv,go_sem,this,h0]
theorem oq_remU (hx:ev F x=some (.int .u64 m)) (hy:ev F y=some (.int .u64 n)) (h0:n≠0):OQ c ⟨d,.binOp .rem t x y t',ty,pos,af,g⟩ F H (.int .u64 (m.tmod n)):=.of fun D a w ha _=>by
 simp [execOp,ha.ev hx,ha.ev hy,eqGuard,binOp,Op.intDiv,go_sem,h0]
theorem oq_shr {k k':IntKind} (hx:ev F x=some (.int k m)) (hy:ev F y=some (.int k' n)) (h0:0≤n):OQ c ⟨d,.binOp .shr t x y t',ty,pos,af,g⟩ F H (.int k (m.fdiv (2 ^ (min n.toNat k.bits)))):=.of fun D a w ha _=>by
 have:¬ n<0:=by omega
 simp [execOp,ha.ev hx,ha.ev hy,eqGuard,binOp,Op.shift,go_sem,this]
theorem and_mask {a:Int} {j:Nat} (h:InU a) (hj:j<64):(BitVec.ofInt 64 a &&& BitVec.ofInt 64 (2 ^ j-1)).toNat=(a % 2 ^ j).toNat:=by
 have h1:((2:Int) ^ j-1)=((2 ^ j-1:Nat):Int):=by
   have:0<2 ^ j:=Nat.pow_pos (by omega)
   rw [Int.ofNat_sub (by omega)];simp
 have ha:a=(a.toNat:Int):=(Int.toNat_of_nonneg h.1).symm
 have hlt:a.toNat<2 ^ 64:=by have:=h.2;omega
 have hp:2 ^ j-1<2 ^ 64:=by
   have:2 ^ j<2 ^ 64:=Nat.pow_lt_pow_right (by omega) hj
   omega
 rw [h1,ha,BitVec.ofInt_natCast,BitVec.ofInt_natCast,BitVec.toNat_and,BitVec.toNat_ofNat,BitVec.toNat_ofNat,Nat.mod_eq_of_lt hlt,Nat.mod_eq_of_lt hp,Nat.and_two_pow_sub_one_eq_mod]
 have:((a.toNat:Int) % 2 ^ j)=((a.toNat % 2 ^ j:Nat):Int):=by simp
 rw [this,Int.toNat_natCast]
theorem oq_andU {j:Nat} (hx:ev F x=some (.int .u64 m)) (hy:ev F y=some (.int .u64 (2 ^ j-1))) (h:InU m) (hj:j<64):OQ c ⟨d,.binOp .and t x y t',ty,pos,af,g⟩ F H (.int .u64 (m % 2 ^ j)):=.of fun D a w ha _=>by
 have hm:=and_mask h hj
 have hp:(0:Int)<2 ^ j:=Int.pow_pos (by omega)
 have h0:=Int.emod_nonneg m (Int.ne_of_gt hp)
 have h1:m % 2 ^ j≤m:=by
   rw [Int.emod_def]
   exact Int.sub_le_self _ (Int.mul_nonneg (Int.le_of_lt hp) (Int.ediv_nonneg h.1 (Int.le_of_lt hp)))
 have hw:IntKind.u64.wrap (((BitVec.ofInt IntKind.u64.bits m &&& BitVec.ofInt IntKind.u64.bits (2 ^ j-1)).toNat:Nat):Int)=m % 2 ^ j:=by
   rw [show (BitVec.ofInt IntKind.u64.bits m &&& BitVec.ofInt IntKind.u64.bits (2 ^ j-1)).toNat=(m % 2 ^ j).toNat from hm,Int.toNat_of_nonneg h0]
   exact wrapU ⟨h0,by have:=h.2;omega⟩
 simp only [execOp,ha.ev hx,ha.ev hy,eqGuard,binOp,Op.intBits]
 rw [hw]
 simp [go_sem]
theorem oq_convU {a0 a1:Bool} {s0 s1:Nat} {z0 z1:List Value} {k:IntKind} (ht:tyAt c.tys t=some ⟨a0,s0,z0,.int k⟩) (ht':tyAt c.tys t'=some ⟨a1,s1,z1,.int .u64⟩) (hx:ev F x=some (.int k m)) (hr:InU m) :
   OQ c ⟨d,.convert t t' x,ty,pos,af,g⟩ F H (.int .u64 m):=.of fun D a w ha _=>by
 have h:=(c.ty ht).kind
 have h2:=h w
 have h':=(c.ty ht').kind
 have h3:=h' w
 have:=wrapU hr
 simp [execOp,ha.ev hx,convert,go_sem,h2,h3,Conv.intToInt,this]
theorem oq_shr32 {k':IntKind} (hx:ev F x=some (.int .u64 m)) (hy:ev F y=some (.int k' 32)) (_:0≤m):OQ c ⟨d,.binOp .shr t x y t',ty,pos,af,g⟩ F H (.int .u64 (m / 4294967296)):=by
 have:=oq_shr (c:=c) (d:=d) (ty:=ty) (t:=t) (t':=t') (pos:=pos) (af:=af) (g:=g) (H:=H) hx hy (by omega)
 rw [show (2:Int) ^ (min (32:Int).toNat IntKind.u64.bits)=4294967296 from rfl,Int.fdiv_eq_ediv_of_nonneg _ (by omega)] at this
 exact this
theorem oq_shrLow {k':IntKind} (hx:ev F x=some (.int .u64 m)) (hy:ev F y=some (.int k' 32)) (h:0≤m∧m<4294967296):OQ c ⟨d,.binOp .shr t x y t',ty,pos,af,g⟩ F H (.int .u64 0):=by
 have:=oq_shr32 (c:=c) (d:=d) (ty:=ty) (t:=t) (t':=t') (pos:=pos) (af:=af) (g:=g) (H:=H) hx hy h.1
 rw [show m / 4294967296=0 by omega] at this
 exact this
theorem oq_andLow (hx:ev F x=some (.int .u64 m)) (hy:ev F y=some (.int .u64 4294967295)) (h:0≤m∧m<4294967296):OQ c ⟨d,.binOp .and t x y t',ty,pos,af,g⟩ F H (.int .u64 m):=by
 have:=oq_andU (c:=c) (d:=d) (ty:=ty) (t:=t) (t':=t') (pos:=pos) (af:=af) (g:=g) (H:=H) (j:=32) hx hy ⟨h.1,by omega⟩ (by omega)
 rw [show m % 2 ^ 32=m by omega] at this
 exact this
end
theorem flatten_at {k:Nat}:∀ {rows:List (List Value)},(∀ r∈rows,r.length=k)→∀ {j:Nat} {u:Value},rows.flatten[j]?=some u→∃ i r j',rows[i]?=some r∧r[j']?=some u∧j=i*k+j'
 | [],_,j,u,h=>by simp at h
 | r::rows,hk,j,u,h=>by
   simp only [List.flatten_cons] at h
   have hr:=hk r (List.mem_cons_self ..)
   by_cases hj:j<r.length
   · rw [List.getElem?_append_left hj] at h
     exact ⟨0,r,j,rfl,h,by simp⟩
   · rw [List.getElem?_append_right (by omega)] at h
     obtain ⟨i,r',j',h1,h2,h3⟩:=flatten_at (fun r hr=>hk r (List.mem_cons_of_mem _ hr)) h
     exact ⟨i+1,r',j',by simpa using h1,h2,by rw [Nat.succ_mul];omega⟩
theorem flatten_len {k:Nat}:∀ {rows:List (List Value)},(∀ r∈rows,r.length=k)→rows.flatten.length=rows.length*k
 | [],_=>by simp
 | r::rows,hk=>by
   rw [List.flatten_cons,List.length_append,hk r (List.mem_cons_self ..),flatten_len fun r hr=>hk r (List.mem_cons_of_mem _ hr),List.length_cons,Nat.succ_mul]
   omega
section
variable {c:Cx} {F:Fr} {H H':Hp} {C:List Value} {K:Value→Hp→Prop} {d:Option Tmp} {ty:TypeId} {pos:String} {af:Array Edge} {g:Option (Nat×Bool)}
theorem append_run0 {g0:Option (Nat×Bool)} {s x:Operand} {t e size bytes c2 n cap gb:Nat} {A:Option Addr} {a:Act} {w:World} (hk:AppOk c.P t e size bytes) (hs:a.eval s=.slice (some ⟨gb,0,none⟩) n cap)
   (hx:a.eval x=.slice A 0 c2) (hn:n≤cap):(execOp a.eval ⟨d,.call ⟨.builtin .append,#[s,x],#[t,t]⟩,ty,pos,af,g0⟩).run c.P w=.ok (.value (.slice (some ⟨gb,0,none⟩) n cap)) w:=by
 obtain ⟨i,z,k1,k2,k3,k4,k5⟩:=hk.info
 have ht:=hk.und
 cases A <;>
 simp [execOp,resolve,invoke,builtin,Sem.run_bind,Sem.run_pure,Result.andThen,hs,hx,Builtin.append_,run_underlying ht,sizeOf,typeInfo,k1,Builtin.lenOf,Builtin.firstCells,loadCells,loadCellsFrom,hn,storeCells]
theorem os_appendRows {s x:Operand} {t e size bytes m c2 n cap gb:Nat} {A:Option Addr} {rows:List (List Value)} (hk:AppOk c.P t e size bytes) (hs:ev F s=some (.slice (some ⟨gb,0,none⟩) n cap)) (hx:ev F x=some (.slice A m c2))
   (hp:Pick H gb C (some (e,size,cap)) H') (hr:∀ D w,Has c.w0 ⟨c.M,D⟩ H w→RdS w size A m rows) (hrk:∀ r∈rows,r.length=size) (hC:C.length=n*size) (h1:∀ r∈rows,∀ u∈r,u.oneCell'=true) (hn:n≤cap) (hb:(n+m)*bytes≤140737488355328) (hmax:n+m≤9223372036854775807)
   (k:∀ b cap',K (.slice (some ⟨b,0,none⟩) (n+m) cap') ((b,C++rows.flatten,some (e,size,cap'))::H')):OS c ⟨d,.call ⟨.builtin .append,#[s,x],#[t,t]⟩,ty,pos,af,g⟩ F H K:=by
 intro D a w ha hw
 have hw':=hw.perm hp.perm
 have hR:=hr D w hw
 have hlen:=hR.len
 by_cases hm:m=0
 · subst hm
   have:rows=[]:=List.eq_nil_of_length_eq_zero hlen
   subst this
   rw [append_run0 (d:=d) (ty:=ty) (pos:=pos) (af:=af) (g0:=g) hk (ha.ev hs) (ha.ev hx) hn]
   exact ⟨_,k gb cap,by simpa using hw'⟩
 · obtain ⟨b2,o2,rfl,_,hc⟩:=hR.at_ (by omega)
   obtain ⟨g',cap',w',r1,r2,r3,r4⟩:=append_run (d:=d) (ty:=ty) (pos:=pos) (af:=af) (g0:=g) (news:=rows.flatten) hk (ha.ev hs) (own_of_blk (hw'.blk _ (List.mem_cons_self ..)).2 hC hk.pos) (ha.ev hx) (by rw [flatten_len hrk,hlen])
     (fun j u hj=>by
       obtain ⟨i,r,j',h2,h3,rfl⟩:=flatten_at hrk hj
       have:=(hc i r h2).2 j' u h3
       rw [Nat.add_assoc] at this
       exact this)
     (fun u hu=>by
       obtain ⟨r,h2,h3⟩:=List.mem_flatten.1 hu
       exact h1 r h2 u h3) (by omega) hb hmax
   rw [r1]
   have he:ExtM [gb] w w':=ExtM.of_grown r3 (fun k e=>by simpa [Value.ownBlock] using e.symm)
   refine ⟨_,k g' cap',?_⟩
   rcases r4 with r4|r4
   · obtain rfl:g'=gb:=by simpa [Value.ownBlock] using r4
     exact hw'.wrote he r2
   · subst r4
     exact (hw'.lost he).fresh' (w:=w) hw.ext.size (fun y hy=>(hw'.blk y (List.mem_cons_of_mem _ hy)).2.lt) r2
end
def FOk (P:Program):List Field→List (Nat×Nat×Bool)→Prop
 | [],[]=>True
 | d::ds,(off,n,g)::fs=>d.offset=off∧(∀ w,(sizeOf d.type).run P w=.ok n w)∧(∀ w,(isAgg d.type).run P w=.ok g w)∧FOk P ds fs
 | _,_=>False
theorem FOk.len {P:Program} {ds:Array Field} {fs:List (Nat×Nat×Bool)} (h:FOk P ds.toList fs):ds.size=fs.length:=by
 have:∀ (l:List Field) (fs:List (Nat×Nat×Bool)),FOk P l fs→l.length=fs.length:=by
   intro l
   induction l with
   | nil=>intro fs h;cases fs with|nil=>rfl|cons a b=>exact h.elim
   | cons d l ih=>intro fs h;cases fs with|nil=>exact h.elim|cons a b=>obtain ⟨x,y,z⟩:=a;simp [ih b h.2.2.2]
 simpa using this _ _ h
theorem FOk.at_ {P:Program}:∀ {ds:List Field} {fs:List (Nat×Nat×Bool)},FOk P ds fs→∀ (f off n:Nat) (g:Bool),fs[f]?=some (off,n,g) →
     ∃ d:Field,ds[f]?=some d∧d.offset=off∧(∀ w,(sizeOf d.type).run P w=.ok n w)∧∀ w,(isAgg d.type).run P w=.ok g w
 | [],[],_,f,off,n,g,h=>by simp at h
 | [],_::_,h,_,_,_,_,_=>h.elim
 | _::_,[],h,_,_,_,_,_=>h.elim
 | d::ds,(off',n',g')::fs,h,0,off,n,g,hf=>by
   obtain ⟨rfl,rfl,rfl⟩:off'=off∧n'=n∧g'=g:=by simpa using hf
   exact ⟨d,rfl,h.1,h.2.1,h.2.2.1⟩
 | d::ds,(off',n',g')::fs,h,f+1,off,n,g,hf=>by
   obtain ⟨d',h1,h2⟩:=FOk.at_ h.2.2.2 f off n g (by simpa using hf)
   exact ⟨d',by simpa using h1,h2⟩
theorem struct_ok {P:Program} {t:Nat} {ds:Array Field} {fs:List (Nat×Nat×Bool)} (hu:∀ w,(underlying t).run P w=.ok (.struct ds) w) (h:FOk P ds.toList fs):KindOk P t (.struct fs):=
 ⟨ds,hu,h.len,fun f off n g hf=>by
   obtain ⟨d,h1,h2⟩:=h.at_ f off n g hf
   exact ⟨d,by simpa using h1,h2⟩⟩
theorem ty_ok3 : TyOk Tryz.prog 3 ⟨false, 1, [(.int .i64 0)], .int .i64⟩ := ⟨Tryz.isAgg3, Tryz.sizeOf3, fun w => ⟨_, Tryz.zeroValue3 w, rfl⟩, rfl, Tryz.runUnderlying3⟩ -- int
theorem ty_ok4 : TyOk Tryz.prog 4 ⟨false, 1, [(.bool false)], .other⟩ := ⟨Tryz.isAgg4, Tryz.sizeOf4, fun w => ⟨_, Tryz.zeroValue4 w, rfl⟩, rfl, trivial⟩ -- bool
theorem ty_ok5 : TyOk Tryz.prog 5 ⟨false, 1, [(.int .u8 0)], .int .u8⟩ := ⟨Tryz.isAgg5, Tryz.sizeOf5, fun w => ⟨_, Tryz.zeroValue5 w, rfl⟩, rfl, Tryz.runUnderlying5⟩ -- uint8
theorem ty_ok9 : TyOk Tryz.prog 9 ⟨false, 1, [(.string { data := #[] })], .other⟩ := ⟨Tryz.isAgg9, Tryz.sizeOf9, fun w => ⟨_, Tryz.zeroValue9 w, rfl⟩, rfl, trivial⟩ -- string
theorem ty_ok20 : TyOk Tryz.prog 20 ⟨false, 1, [.nilIface], .other⟩ := ⟨Tryz.isAgg20, Tryz.sizeOf20, fun w => ⟨_, Tryz.zeroValue20 w, rfl⟩, rfl, trivial⟩ -- interface {}
theorem ty_ok22 : TyOk Tryz.prog 22 ⟨false, 1, [(.slice none 0 0)], .slice 4⟩ := ⟨Tryz.isAgg22, Tryz.sizeOf22, fun w => ⟨_, Tryz.zeroValue22 w, rfl⟩, rfl, Tryz.runUnderlying22⟩ -- []bool
theorem ty_ok23 : TyOk Tryz.prog 23 ⟨false, 1, [(.slice none 0 0)], .slice 78⟩ := ⟨Tryz.isAgg23, Tryz.sizeOf23, fun w => ⟨_, Tryz.zeroValue23 w, rfl⟩, rfl, Tryz.runUnderlying23⟩ -- []api.Track
theorem ty_ok25 : TyOk Tryz.prog 25 ⟨true, 2, [.slice none 0 0, .slice none 0 0], .struct [(0, 1, false), (1, 1, false)]⟩ := ⟨Tryz.isAgg25, Tryz.sizeOf25, fun w => ⟨_, Tryz.zeroValue25 w, rfl⟩, rfl, struct_ok Tryz.runUnderlying25 ⟨rfl, Tryz.sizeOf22, Tryz.isAgg22, ⟨rfl, Tryz.sizeOf23, Tryz.isAgg23, trivial⟩⟩⟩ -- api.Chart
theorem ty_ok27 : TyOk Tryz.prog 27 ⟨true, 2, [.int .i64 0, .int .i64 0], .struct [(0, 1, false), (1, 1, false)]⟩ := ⟨Tryz.isAgg27, Tryz.sizeOf27, fun w => ⟨_, Tryz.zeroValue27 w, rfl⟩, rfl, struct_ok Tryz.runUnderlying27 ⟨rfl, Tryz.sizeOf3, Tryz.isAgg3, ⟨rfl, Tryz.sizeOf3, Tryz.isAgg3, trivial⟩⟩⟩ -- api.Span
theorem ty_ok29 : TyOk Tryz.prog 29 ⟨true, 7, [.int .i64 0, .int .i64 0, .int .i64 0, .int .i64 0, .int .i64 0, .int .i64 0, .int .i64 0], .struct [(0, 1, false), (1, 1, false), (2, 1, false), (3, 1, false), (4, 1, false), (5, 2, true)]⟩ := ⟨Tryz.isAgg29, Tryz.sizeOf29, fun w => ⟨_, Tryz.zeroValue29 w, rfl⟩, rfl, struct_ok Tryz.runUnderlying29 ⟨rfl, Tryz.sizeOf3, Tryz.isAgg3, ⟨rfl, Tryz.sizeOf3, Tryz.isAgg3, ⟨rfl, Tryz.sizeOf3, Tryz.isAgg3, ⟨rfl, Tryz.sizeOf3, Tryz.isAgg3, ⟨rfl, Tryz.sizeOf3, Tryz.isAgg3, ⟨rfl, Tryz.sizeOf27, Tryz.isAgg27, trivial⟩⟩⟩⟩⟩⟩⟩ -- api.Pace
theorem ty_ok30 : TyOk Tryz.prog 30 ⟨false, 1, [(.slice none 0 0)], .slice 84⟩ := ⟨Tryz.isAgg30, Tryz.sizeOf30, fun w => ⟨_, Tryz.zeroValue30 w, rfl⟩, rfl, Tryz.runUnderlying30⟩ -- [][]api.Gale
theorem ty_ok31 : TyOk Tryz.prog 31 ⟨false, 1, [(.slice none 0 0)], .slice 3⟩ := ⟨Tryz.isAgg31, Tryz.sizeOf31, fun w => ⟨_, Tryz.zeroValue31 w, rfl⟩, rfl, Tryz.runUnderlying31⟩ -- []int
theorem ty_ok34 : TyOk Tryz.prog 34 ⟨true, 2, [.int .i64 0, .int .i64 0], .struct [(0, 1, false), (1, 1, false)]⟩ := ⟨Tryz.isAgg34, Tryz.sizeOf34, fun w => ⟨_, Tryz.zeroValue34 w, rfl⟩, rfl, struct_ok Tryz.runUnderlying34 ⟨rfl, Tryz.sizeOf3, Tryz.isAgg3, ⟨rfl, Tryz.sizeOf3, Tryz.isAgg3, trivial⟩⟩⟩ -- api.Point
theorem ty_ok35 : TyOk Tryz.prog 35 ⟨false, 1, [(.int .i64 0)], .int .i64⟩ := ⟨Tryz.isAgg35, Tryz.sizeOf35, fun w => ⟨_, Tryz.zeroValue35 w, rfl⟩, rfl, Tryz.runUnderlying35⟩ -- api.Errno
theorem ty_ok57 : TyOk Tryz.prog 57 ⟨false, 1, [(.slice none 0 0)], .slice 31⟩ := ⟨Tryz.isAgg57, Tryz.sizeOf57, fun w => ⟨_, Tryz.zeroValue57 w, rfl⟩, rfl, Tryz.runUnderlying57⟩ -- [][]int
theorem ty_ok66 : TyOk Tryz.prog 66 ⟨true, 3, [.int .i64 0, .int .i64 0, .slice none 0 0], .struct [(0, 1, false), (1, 1, false), (2, 1, false)]⟩ := ⟨Tryz.isAgg66, Tryz.sizeOf66, fun w => ⟨_, Tryz.zeroValue66 w, rfl⟩, rfl, struct_ok Tryz.runUnderlying66 ⟨rfl, Tryz.sizeOf3, Tryz.isAgg3, ⟨rfl, Tryz.sizeOf3, Tryz.isAgg3, ⟨rfl, Tryz.sizeOf31, Tryz.isAgg31, trivial⟩⟩⟩⟩ -- api.Terrain
theorem ty_ok67 : TyOk Tryz.prog 67 ⟨false, 1, [(.slice none 0 0)], .slice 5⟩ := ⟨Tryz.isAgg67, Tryz.sizeOf67, fun w => ⟨_, Tryz.zeroValue67 w, rfl⟩, rfl, Tryz.runUnderlying67⟩ -- []uint8
theorem ty_ok78 : TyOk Tryz.prog 78 ⟨true, 5, [.int .i64 0, .int .i64 0, .int .i64 0, .int .i64 0, .int .i64 0], .struct [(0, 1, false), (1, 1, false), (2, 1, false), (3, 1, false), (4, 1, false)]⟩ := ⟨Tryz.isAgg78, Tryz.sizeOf78, fun w => ⟨_, Tryz.zeroValue78 w, rfl⟩, rfl, struct_ok Tryz.runUnderlying78 ⟨rfl, Tryz.sizeOf3, Tryz.isAgg3, ⟨rfl, Tryz.sizeOf3, Tryz.isAgg3, ⟨rfl, Tryz.sizeOf3, Tryz.isAgg3, ⟨rfl, Tryz.sizeOf3, Tryz.isAgg3, ⟨rfl, Tryz.sizeOf3, Tryz.isAgg3, trivial⟩⟩⟩⟩⟩⟩ -- api.Track
theorem ty_ok81 : TyOk Tryz.prog 81 ⟨true, 4, [.int .i64 0, .int .i64 0, .int .i64 0, .int .i64 0], .struct [(0, 2, true), (2, 2, true)]⟩ := ⟨Tryz.isAgg81, Tryz.sizeOf81, fun w => ⟨_, Tryz.zeroValue81 w, rfl⟩, rfl, struct_ok Tryz.runUnderlying81 ⟨rfl, Tryz.sizeOf27, Tryz.isAgg27, ⟨rfl, Tryz.sizeOf27, Tryz.isAgg27, trivial⟩⟩⟩ -- api.Wind
theorem ty_ok84 : TyOk Tryz.prog 84 ⟨false, 1, [(.slice none 0 0)], .slice 164⟩ := ⟨Tryz.isAgg84, Tryz.sizeOf84, fun w => ⟨_, Tryz.zeroValue84 w, rfl⟩, rfl, Tryz.runUnderlying84⟩ -- []api.Gale
theorem ty_ok91 : TyOk Tryz.prog 91 ⟨false, 1, [(.int .u16 0)], .int .u16⟩ := ⟨Tryz.isAgg91, Tryz.sizeOf91, fun w => ⟨_, Tryz.zeroValue91 w, rfl⟩, rfl, Tryz.runUnderlying91⟩ -- uint16
theorem ty_ok93 : TyOk Tryz.prog 93 ⟨true, 3, [.int .i64 0, .int .i64 0, .int .i64 0], .array 3 3⟩ := ⟨Tryz.isAgg93, Tryz.sizeOf93, fun w => ⟨_, Tryz.zeroValue93 w, rfl⟩, rfl, Tryz.runUnderlying93⟩ -- [3]int
theorem ty_ok102 : TyOk Tryz.prog 102 ⟨false, 1, [(.int .u32 0)], .int .u32⟩ := ⟨Tryz.isAgg102, Tryz.sizeOf102, fun w => ⟨_, Tryz.zeroValue102 w, rfl⟩, rfl, Tryz.runUnderlying102⟩ -- uint32
theorem ty_ok112 : TyOk Tryz.prog 112 ⟨false, 1, [(.pointer none)], .ptr 147⟩ := ⟨Tryz.isAgg112, Tryz.sizeOf112, fun w => ⟨_, Tryz.zeroValue112 w, rfl⟩, rfl, Tryz.runUnderlying112⟩ -- *route.trip
theorem ty_ok117 : TyOk Tryz.prog 117 ⟨true, 2, [.int .i64 0, .int .i64 0], .struct [(0, 1, false), (1, 1, false)]⟩ := ⟨Tryz.isAgg117, Tryz.sizeOf117, fun w => ⟨_, Tryz.zeroValue117 w, rfl⟩, rfl, struct_ok Tryz.runUnderlying117 ⟨rfl, Tryz.sizeOf3, Tryz.isAgg3, ⟨rfl, Tryz.sizeOf3, Tryz.isAgg3, trivial⟩⟩⟩ -- route.bill
theorem ty_ok118 : TyOk Tryz.prog 118 ⟨false, 1, [.nilFunc], .other⟩ := ⟨Tryz.isAgg118, Tryz.sizeOf118, fun w => ⟨_, Tryz.zeroValue118 w, rfl⟩, rfl, trivial⟩ -- func(route.bill, route.bill, route.bill) bool
theorem ty_ok126 : TyOk Tryz.prog 126 ⟨false, 1, [(.pointer none)], .ptr 172⟩ := ⟨Tryz.isAgg126, Tryz.sizeOf126, fun w => ⟨_, Tryz.zeroValue126 w, rfl⟩, rfl, Tryz.runUnderlying126⟩ -- *route.desk
theorem ty_ok131 : TyOk Tryz.prog 131 ⟨true, 3, [.int .i64 0, .slice none 0 0, .bool false], .struct [(0, 1, false), (1, 1, false), (2, 1, false)]⟩ := ⟨Tryz.isAgg131, Tryz.sizeOf131, fun w => ⟨_, Tryz.zeroValue131 w, rfl⟩, rfl, struct_ok Tryz.runUnderlying131 ⟨rfl, Tryz.sizeOf3, Tryz.isAgg3, ⟨rfl, Tryz.sizeOf31, Tryz.isAgg31, ⟨rfl, Tryz.sizeOf4, Tryz.isAgg4, trivial⟩⟩⟩⟩ -- route.plan
theorem ty_ok132 : TyOk Tryz.prog 132 ⟨false, 1, [(.slice none 0 0)], .slice 131⟩ := ⟨Tryz.isAgg132, Tryz.sizeOf132, fun w => ⟨_, Tryz.zeroValue132 w, rfl⟩, rfl, Tryz.runUnderlying132⟩ -- []route.plan
theorem ty_ok134 : TyOk Tryz.prog 134 ⟨false, 1, [.nilFunc], .other⟩ := ⟨Tryz.isAgg134, Tryz.sizeOf134, fun w => ⟨_, Tryz.zeroValue134 w, rfl⟩, rfl, trivial⟩ -- func(int) bool
theorem ty_ok145 : TyOk Tryz.prog 145 ⟨false, 1, [(.slice none 0 0)], .slice 153⟩ := ⟨Tryz.isAgg145, Tryz.sizeOf145, fun w => ⟨_, Tryz.zeroValue145 w, rfl⟩, rfl, Tryz.runUnderlying145⟩ -- []route.flown
theorem ty_ok147 : TyOk Tryz.prog 147 ⟨true, 3, [.pointer none, .slice none 0 0, .slice none 0 0], .struct [(0, 1, false), (1, 1, false), (2, 1, false)]⟩ := ⟨Tryz.isAgg147, Tryz.sizeOf147, fun w => ⟨_, Tryz.zeroValue147 w, rfl⟩, rfl, struct_ok Tryz.runUnderlying147 ⟨rfl, Tryz.sizeOf126, Tryz.isAgg126, ⟨rfl, Tryz.sizeOf31, Tryz.isAgg31, ⟨rfl, Tryz.sizeOf145, Tryz.isAgg145, trivial⟩⟩⟩⟩ -- route.trip
theorem ty_ok153 : TyOk Tryz.prog 153 ⟨true, 2, [.int .i64 0, .bool false], .struct [(0, 1, false), (1, 1, false)]⟩ := ⟨Tryz.isAgg153, Tryz.sizeOf153, fun w => ⟨_, Tryz.zeroValue153 w, rfl⟩, rfl, struct_ok Tryz.runUnderlying153 ⟨rfl, Tryz.sizeOf3, Tryz.isAgg3, ⟨rfl, Tryz.sizeOf4, Tryz.isAgg4, trivial⟩⟩⟩ -- route.flown
theorem ty_ok164 : TyOk Tryz.prog 164 ⟨true, 6, [.int .i64 0, .int .i64 0, .int .i64 0, .int .i64 0, .int .i64 0, .int .i64 0], .struct [(0, 1, false), (1, 4, true), (5, 1, false)]⟩ := ⟨Tryz.isAgg164, Tryz.sizeOf164, fun w => ⟨_, Tryz.zeroValue164 w, rfl⟩, rfl, struct_ok Tryz.runUnderlying164 ⟨rfl, Tryz.sizeOf3, Tryz.isAgg3, ⟨rfl, Tryz.sizeOf81, Tryz.isAgg81, ⟨rfl, Tryz.sizeOf3, Tryz.isAgg3, trivial⟩⟩⟩⟩ -- api.Gale
theorem ty_ok167 : TyOk Tryz.prog 167 ⟨false, 1, [.nilFunc], .other⟩ := ⟨Tryz.isAgg167, Tryz.sizeOf167, fun w => ⟨_, Tryz.zeroValue167 w, rfl⟩, rfl, trivial⟩ -- func(api.Wind) api.Span
theorem ty_ok168 : TyOk Tryz.prog 168 ⟨true, 2, [.bool false, .int .i64 0], .struct [(0, 1, false), (1, 1, false)]⟩ := ⟨Tryz.isAgg168, Tryz.sizeOf168, fun w => ⟨_, Tryz.zeroValue168 w, rfl⟩, rfl, struct_ok Tryz.runUnderlying168 ⟨rfl, Tryz.sizeOf4, Tryz.isAgg4, ⟨rfl, Tryz.sizeOf3, Tryz.isAgg3, trivial⟩⟩⟩ -- struct { back bool; metres int }
theorem ty_ok169 : TyOk Tryz.prog 169 ⟨false, 1, [(.slice none 0 0)], .slice 168⟩ := ⟨Tryz.isAgg169, Tryz.sizeOf169, fun w => ⟨_, Tryz.zeroValue169 w, rfl⟩, rfl, Tryz.runUnderlying169⟩ -- []struct { back bool; metres int }
theorem ty_ok170 : TyOk Tryz.prog 170 ⟨false, 1, [(.map none)], .other⟩ := ⟨Tryz.isAgg170, Tryz.sizeOf170, fun w => ⟨_, Tryz.zeroValue170 w, rfl⟩, rfl, trivial⟩ -- map[route.flown][]route.rate
theorem ty_ok172 : TyOk Tryz.prog 172 ⟨true, 10, [.slice none 0 0, .slice none 0 0, .int .i64 0, .int .i64 0, .int .i64 0, .int .i64 0, .int .i64 0, .int .i64 0, .int .i64 0, .map none], .struct [(0, 2, true), (2, 7, true), (9, 1, false)]⟩ := ⟨Tryz.isAgg172, Tryz.sizeOf172, fun w => ⟨_, Tryz.zeroValue172 w, rfl⟩, rfl, struct_ok Tryz.runUnderlying172 ⟨rfl, Tryz.sizeOf25, Tryz.isAgg25, ⟨rfl, Tryz.sizeOf29, Tryz.isAgg29, ⟨rfl, Tryz.sizeOf170, Tryz.isAgg170, trivial⟩⟩⟩⟩ -- route.desk
theorem ty_ok177 : TyOk Tryz.prog 177 ⟨true, 3, [.int .i64 0, .int .i64 0, .int .i64 0], .array 3 35⟩ := ⟨Tryz.isAgg177, Tryz.sizeOf177, fun w => ⟨_, Tryz.zeroValue177 w, rfl⟩, rfl, Tryz.runUnderlying177⟩ -- [3]api.Errno
theorem ty_ok178 : TyOk Tryz.prog 178 ⟨false, 1, [(.slice none 0 0)], .slice 205⟩ := ⟨Tryz.isAgg178, Tryz.sizeOf178, fun w => ⟨_, Tryz.zeroValue178 w, rfl⟩, rfl, Tryz.runUnderlying178⟩ -- []route.rate
theorem ty_ok187 : TyOk Tryz.prog 187 ⟨false, 1, [.nilFunc], .other⟩ := ⟨Tryz.isAgg187, Tryz.sizeOf187, fun w => ⟨_, Tryz.zeroValue187 w, rfl⟩, rfl, trivial⟩ -- func(route.plan, route.plan) int
theorem ty_ok195 : TyOk Tryz.prog 195 ⟨true, 3, [.int .i64 0, .int .i64 0, .int .i64 0], .struct [(0, 1, false), (1, 1, false), (2, 1, false)]⟩ := ⟨Tryz.isAgg195, Tryz.sizeOf195, fun w => ⟨_, Tryz.zeroValue195 w, rfl⟩, rfl, struct_ok Tryz.runUnderlying195 ⟨rfl, Tryz.sizeOf3, Tryz.isAgg3, ⟨rfl, Tryz.sizeOf3, Tryz.isAgg3, ⟨rfl, Tryz.sizeOf3, Tryz.isAgg3, trivial⟩⟩⟩⟩ -- route.reached
theorem ty_ok197 : TyOk Tryz.prog 197 ⟨false, 1, [(.slice none 0 0)], .slice 195⟩ := ⟨Tryz.isAgg197, Tryz.sizeOf197, fun w => ⟨_, Tryz.zeroValue197 w, rfl⟩, rfl, Tryz.runUnderlying197⟩ -- route.front
theorem ty_ok200 : TyOk Tryz.prog 200 ⟨true, 2, [.int .i64 0, .bool false], .struct [(0, 1, false), (1, 1, false)]⟩ := ⟨Tryz.isAgg200, Tryz.sizeOf200, fun w => ⟨_, Tryz.zeroValue200 w, rfl⟩, rfl, struct_ok Tryz.runUnderlying200 ⟨rfl, Tryz.sizeOf3, Tryz.isAgg3, ⟨rfl, Tryz.sizeOf4, Tryz.isAgg4, trivial⟩⟩⟩ -- struct { cell int; is bool }
theorem ty_ok201 : TyOk Tryz.prog 201 ⟨true, 8, [.int .i64 0, .bool false, .int .i64 0, .bool false, .int .i64 0, .bool false, .int .i64 0, .bool false], .array 4 200⟩ := ⟨Tryz.isAgg201, Tryz.sizeOf201, fun w => ⟨_, Tryz.zeroValue201 w, rfl⟩, rfl, Tryz.runUnderlying201⟩ -- [4]struct { cell int; is bool }
theorem ty_ok205 : TyOk Tryz.prog 205 ⟨true, 2, [.int .i64 0, .int .i64 0], .struct [(0, 1, false), (1, 1, false)]⟩ := ⟨Tryz.isAgg205, Tryz.sizeOf205, fun w => ⟨_, Tryz.zeroValue205 w, rfl⟩, rfl, struct_ok Tryz.runUnderlying205 ⟨rfl, Tryz.sizeOf3, Tryz.isAgg3, ⟨rfl, Tryz.sizeOf3, Tryz.isAgg3, trivial⟩⟩⟩ -- route.rate
theorem ty_ok209 : TyOk Tryz.prog 209 ⟨false, 1, [(.int .u64 0)], .int .u64⟩ := ⟨Tryz.isAgg209, Tryz.sizeOf209, fun w => ⟨_, Tryz.zeroValue209 w, rfl⟩, rfl, Tryz.runUnderlying209⟩ -- uint
theorem ty_ok210 : TyOk Tryz.prog 210 ⟨false, 1, [(.slice none 0 0)], .slice 212⟩ := ⟨Tryz.isAgg210, Tryz.sizeOf210, fun w => ⟨_, Tryz.zeroValue210 w, rfl⟩, rfl, Tryz.runUnderlying210⟩ -- []api.Knot
theorem ty_ok212 : TyOk Tryz.prog 212 ⟨true, 3, [.int .i64 0, .int .i64 0, .int .i64 0], .struct [(0, 1, false), (1, 2, true)]⟩ := ⟨Tryz.isAgg212, Tryz.sizeOf212, fun w => ⟨_, Tryz.zeroValue212 w, rfl⟩, rfl, struct_ok Tryz.runUnderlying212 ⟨rfl, Tryz.sizeOf3, Tryz.isAgg3, ⟨rfl, Tryz.sizeOf27, Tryz.isAgg27, trivial⟩⟩⟩ -- api.Knot
theorem ty_ok229 : TyOk Tryz.prog 229 ⟨false, 1, [.nilIface], .other⟩ := ⟨Tryz.isAgg229, Tryz.sizeOf229, fun w => ⟨_, Tryz.zeroValue229 w, rfl⟩, rfl, trivial⟩ -- heap.Interface
theorem ty_ok236 : TyOk Tryz.prog 236 ⟨true, 16, [.int .i64 0, .int .i64 0, .int .i64 0, .int .i64 0, .int .i64 0, .int .i64 0, .int .i64 0, .int .i64 0, .int .i64 0, .int .i64 0, .int .i64 0, .int .i64 0, .int .i64 0, .int .i64 0, .int .i64 0, .int .i64 0], .array 8 27⟩ := ⟨Tryz.isAgg236, Tryz.sizeOf236, fun w => ⟨_, Tryz.zeroValue236 w, rfl⟩, rfl, Tryz.runUnderlying236⟩ -- [8]api.Span
theorem ty_ok237 : TyOk Tryz.prog 237 ⟨true, 2, [.int .i64 0, .int .i64 0], .array 2 3⟩ := ⟨Tryz.isAgg237, Tryz.sizeOf237, fun w => ⟨_, Tryz.zeroValue237 w, rfl⟩, rfl, Tryz.runUnderlying237⟩ -- [2]int
theorem ty_ok240 : TyOk Tryz.prog 240 ⟨false, 1, [(.slice none 0 0)], .slice 27⟩ := ⟨Tryz.isAgg240, Tryz.sizeOf240, fun w => ⟨_, Tryz.zeroValue240 w, rfl⟩, rfl, Tryz.runUnderlying240⟩ -- []api.Span
theorem ty_ok252 : TyOk Tryz.prog 252 ⟨false, 1, [(.int .u64 0)], .int .u64⟩ := ⟨Tryz.isAgg252, Tryz.sizeOf252, fun w => ⟨_, Tryz.zeroValue252 w, rfl⟩, rfl, Tryz.runUnderlying252⟩ -- uint64
theorem ty_ok262 : TyOk Tryz.prog 262 ⟨true, 4, [.int .i64 0, .int .i64 0, .int .i64 0, .int .i64 0], .array 2 27⟩ := ⟨Tryz.isAgg262, Tryz.sizeOf262, fun w => ⟨_, Tryz.zeroValue262 w, rfl⟩, rfl, Tryz.runUnderlying262⟩ -- [2]api.Span
theorem ty_ok264 : TyOk Tryz.prog 264 ⟨false, 1, [.nilIface], .other⟩ := ⟨Tryz.isAgg264, Tryz.sizeOf264, fun w => ⟨_, Tryz.zeroValue264 w, rfl⟩, rfl, trivial⟩ -- error
def tys:List (Nat×TyI):=[(3,⟨false,1,[(.int .i64 0)],.int .i64⟩),
 (4,⟨false,1,[(.bool false)],.other⟩),
 (5,⟨false,1,[(.int .u8 0)],.int .u8⟩),
 (9,⟨false,1,[(.string { data:=#[] })],.other⟩),
 (20,⟨false,1,[.nilIface],.other⟩),
 (22,⟨false,1,[(.slice none 0 0)],.slice 4⟩),
 (23,⟨false,1,[(.slice none 0 0)],.slice 78⟩),
 (25,⟨true,2,[.slice none 0 0,.slice none 0 0],.struct [(0,1,false),(1,1,false)]⟩),
 (27,⟨true,2,[.int .i64 0,.int .i64 0],.struct [(0,1,false),(1,1,false)]⟩),
 (29,⟨true,7,[.int .i64 0,.int .i64 0,.int .i64 0,.int .i64 0,.int .i64 0,.int .i64 0,.int .i64 0],.struct [(0,1,false),(1,1,false),(2,1,false),(3,1,false),(4,1,false),(5,2,true)]⟩),
 (30,⟨false,1,[(.slice none 0 0)],.slice 84⟩),
 (31,⟨false,1,[(.slice none 0 0)],.slice 3⟩),
 (34,⟨true,2,[.int .i64 0,.int .i64 0],.struct [(0,1,false),(1,1,false)]⟩),
 (35,⟨false,1,[(.int .i64 0)],.int .i64⟩),
 (57,⟨false,1,[(.slice none 0 0)],.slice 31⟩),
 (66,⟨true,3,[.int .i64 0,.int .i64 0,.slice none 0 0],.struct [(0,1,false),(1,1,false),(2,1,false)]⟩),
 (67,⟨false,1,[(.slice none 0 0)],.slice 5⟩),
 (78,⟨true,5,[.int .i64 0,.int .i64 0,.int .i64 0,.int .i64 0,.int .i64 0],.struct [(0,1,false),(1,1,false),(2,1,false),(3,1,false),(4,1,false)]⟩),
 (81,⟨true,4,[.int .i64 0,.int .i64 0,.int .i64 0,.int .i64 0],.struct [(0,2,true),(2,2,true)]⟩),
 (84,⟨false,1,[(.slice none 0 0)],.slice 164⟩),
 (91,⟨false,1,[(.int .u16 0)],.int .u16⟩),
 (93,⟨true,3,[.int .i64 0,.int .i64 0,.int .i64 0],.array 3 3⟩),
 (102,⟨false,1,[(.int .u32 0)],.int .u32⟩),
 (112,⟨false,1,[(.pointer none)],.ptr 147⟩),
 (117,⟨true,2,[.int .i64 0,.int .i64 0],.struct [(0,1,false),(1,1,false)]⟩),
 (118,⟨false,1,[.nilFunc],.other⟩),
 (126,⟨false,1,[(.pointer none)],.ptr 172⟩),
 (131,⟨true,3,[.int .i64 0,.slice none 0 0,.bool false],.struct [(0,1,false),(1,1,false),(2,1,false)]⟩),
 (132,⟨false,1,[(.slice none 0 0)],.slice 131⟩),
 (134,⟨false,1,[.nilFunc],.other⟩),
 (145,⟨false,1,[(.slice none 0 0)],.slice 153⟩),
 (147,⟨true,3,[.pointer none,.slice none 0 0,.slice none 0 0],.struct [(0,1,false),(1,1,false),(2,1,false)]⟩),
 (153,⟨true,2,[.int .i64 0,.bool false],.struct [(0,1,false),(1,1,false)]⟩),
 (164,⟨true,6,[.int .i64 0,.int .i64 0,.int .i64 0,.int .i64 0,.int .i64 0,.int .i64 0],.struct [(0,1,false),(1,4,true),(5,1,false)]⟩),
 (167,⟨false,1,[.nilFunc],.other⟩),
 (168,⟨true,2,[.bool false,.int .i64 0],.struct [(0,1,false),(1,1,false)]⟩),
 (169,⟨false,1,[(.slice none 0 0)],.slice 168⟩),
 (170,⟨false,1,[(.map none)],.other⟩),
 (172,⟨true,10,[.slice none 0 0,.slice none 0 0,.int .i64 0,.int .i64 0,.int .i64 0,.int .i64 0,.int .i64 0,.int .i64 0,.int .i64 0,.map none],.struct [(0,2,true),(2,7,true),(9,1,false)]⟩),
 (177,⟨true,3,[.int .i64 0,.int .i64 0,.int .i64 0],.array 3 35⟩),
 (178,⟨false,1,[(.slice none 0 0)],.slice 205⟩),
 (187,⟨false,1,[.nilFunc],.other⟩),
 (195,⟨true,3,[.int .i64 0,.int .i64 0,.int .i64 0],.struct [(0,1,false),(1,1,false),(2,1,false)]⟩),
 (197,⟨false,1,[(.slice none 0 0)],.slice 195⟩),
 (200,⟨true,2,[.int .i64 0,.bool false],.struct [(0,1,false),(1,1,false)]⟩),
 (201,⟨true,8,[.int .i64 0,.bool false,.int .i64 0,.bool false,.int .i64 0,.bool false,.int .i64 0,.bool false],.array 4 200⟩),
 (205,⟨true,2,[.int .i64 0,.int .i64 0],.struct [(0,1,false),(1,1,false)]⟩),
 (209,⟨false,1,[(.int .u64 0)],.int .u64⟩),
 (210,⟨false,1,[(.slice none 0 0)],.slice 212⟩),
 (212,⟨true,3,[.int .i64 0,.int .i64 0,.int .i64 0],.struct [(0,1,false),(1,2,true)]⟩),
 (229,⟨false,1,[.nilIface],.other⟩),
 (236,⟨true,16,[.int .i64 0,.int .i64 0,.int .i64 0,.int .i64 0,.int .i64 0,.int .i64 0,.int .i64 0,.int .i64 0,.int .i64 0,.int .i64 0,.int .i64 0,.int .i64 0,.int .i64 0,.int .i64 0,.int .i64 0,.int .i64 0],.array 8 27⟩),
 (237,⟨true,2,[.int .i64 0,.int .i64 0],.array 2 3⟩),
 (240,⟨false,1,[(.slice none 0 0)],.slice 27⟩),
 (252,⟨false,1,[(.int .u64 0)],.int .u64⟩),
 (262,⟨true,4,[.int .i64 0,.int .i64 0,.int .i64 0,.int .i64 0],.array 2 27⟩),
 (264,⟨false,1,[.nilIface],.other⟩)]
theorem tys_ok:∀ x∈tys,TyOk Tryz.prog x.1 x.2:=by
 unfold tys
 refine List.forall_mem_cons.2 ⟨ty_ok3,?_⟩
 refine List.forall_mem_cons.2 ⟨ty_ok4,?_⟩
 refine List.forall_mem_cons.2 ⟨ty_ok5,?_⟩
 refine List.forall_mem_cons.2 ⟨ty_ok9,?_⟩
 refine List.forall_mem_cons.2 ⟨ty_ok20,?_⟩
 refine List.forall_mem_cons.2 ⟨ty_ok22,?_⟩
 refine List.forall_mem_cons.2 ⟨ty_ok23,?_⟩
 refine List.forall_mem_cons.2 ⟨ty_ok25,?_⟩
 refine List.forall_mem_cons.2 ⟨ty_ok27,?_⟩
 refine List.forall_mem_cons.2 ⟨ty_ok29,?_⟩
 refine List.forall_mem_cons.2 ⟨ty_ok30,?_⟩
 refine List.forall_mem_cons.2 ⟨ty_ok31,?_⟩
 refine List.forall_mem_cons.2 ⟨ty_ok34,?_⟩
 refine List.forall_mem_cons.2 ⟨ty_ok35,?_⟩
 refine List.forall_mem_cons.2 ⟨ty_ok57,?_⟩
 refine List.forall_mem_cons.2 ⟨ty_ok66,?_⟩
 refine List.forall_mem_cons.2 ⟨ty_ok67,?_⟩
 refine List.forall_mem_cons.2 ⟨ty_ok78,?_⟩
 refine List.forall_mem_cons.2 ⟨ty_ok81,?_⟩
 refine List.forall_mem_cons.2 ⟨ty_ok84,?_⟩
 refine List.forall_mem_cons.2 ⟨ty_ok91,?_⟩
 refine List.forall_mem_cons.2 ⟨ty_ok93,?_⟩
 refine List.forall_mem_cons.2 ⟨ty_ok102,?_⟩
 refine List.forall_mem_cons.2 ⟨ty_ok112,?_⟩
 refine List.forall_mem_cons.2 ⟨ty_ok117,?_⟩
 refine List.forall_mem_cons.2 ⟨ty_ok118,?_⟩
 refine List.forall_mem_cons.2 ⟨ty_ok126,?_⟩
 refine List.forall_mem_cons.2 ⟨ty_ok131,?_⟩
 refine List.forall_mem_cons.2 ⟨ty_ok132,?_⟩
 refine List.forall_mem_cons.2 ⟨ty_ok134,?_⟩
 refine List.forall_mem_cons.2 ⟨ty_ok145,?_⟩
 refine List.forall_mem_cons.2 ⟨ty_ok147,?_⟩
 refine List.forall_mem_cons.2 ⟨ty_ok153,?_⟩
 refine List.forall_mem_cons.2 ⟨ty_ok164,?_⟩
 refine List.forall_mem_cons.2 ⟨ty_ok167,?_⟩
 refine List.forall_mem_cons.2 ⟨ty_ok168,?_⟩
 refine List.forall_mem_cons.2 ⟨ty_ok169,?_⟩
 refine List.forall_mem_cons.2 ⟨ty_ok170,?_⟩
 refine List.forall_mem_cons.2 ⟨ty_ok172,?_⟩
 refine List.forall_mem_cons.2 ⟨ty_ok177,?_⟩
 refine List.forall_mem_cons.2 ⟨ty_ok178,?_⟩
 refine List.forall_mem_cons.2 ⟨ty_ok187,?_⟩
 refine List.forall_mem_cons.2 ⟨ty_ok195,?_⟩
 refine List.forall_mem_cons.2 ⟨ty_ok197,?_⟩
 refine List.forall_mem_cons.2 ⟨ty_ok200,?_⟩
 refine List.forall_mem_cons.2 ⟨ty_ok201,?_⟩
 refine List.forall_mem_cons.2 ⟨ty_ok205,?_⟩
 refine List.forall_mem_cons.2 ⟨ty_ok209,?_⟩
 refine List.forall_mem_cons.2 ⟨ty_ok210,?_⟩
 refine List.forall_mem_cons.2 ⟨ty_ok212,?_⟩
 refine List.forall_mem_cons.2 ⟨ty_ok229,?_⟩
 refine List.forall_mem_cons.2 ⟨ty_ok236,?_⟩
 refine List.forall_mem_cons.2 ⟨ty_ok237,?_⟩
 refine List.forall_mem_cons.2 ⟨ty_ok240,?_⟩
 refine List.forall_mem_cons.2 ⟨ty_ok252,?_⟩
 refine List.forall_mem_cons.2 ⟨ty_ok262,?_⟩
 refine List.forall_mem_cons.2 ⟨ty_ok264,?_⟩
 exact fun x hx=>(List.not_mem_nil hx).elim
theorem app_ok22:AppOk Tryz.prog 22 4 1 1:=⟨Tryz.underlying22,⟨Tryz.t4,_,(by kernel_rfl),rfl,rfl,rfl,rfl⟩,by decide⟩
theorem app_ok30:AppOk Tryz.prog 30 84 1 24:=⟨Tryz.underlying30,⟨Tryz.t84,_,(by kernel_rfl),rfl,rfl,rfl,rfl⟩,by decide⟩
theorem app_ok31:AppOk Tryz.prog 31 3 1 8:=⟨Tryz.underlying31,⟨Tryz.t3,_,(by kernel_rfl),rfl,rfl,rfl,rfl⟩,by decide⟩
theorem app_ok132:AppOk Tryz.prog 132 131 3 40:=⟨Tryz.underlying132,⟨Tryz.t131,_,(by kernel_rfl),rfl,rfl,rfl,rfl⟩,by decide⟩
theorem app_ok145:AppOk Tryz.prog 145 153 2 16:=⟨Tryz.underlying145,⟨Tryz.t153,_,(by kernel_rfl),rfl,rfl,rfl,rfl⟩,by decide⟩
theorem app_ok178:AppOk Tryz.prog 178 205 2 16:=⟨Tryz.underlying178,⟨Tryz.t205,_,(by kernel_rfl),rfl,rfl,rfl,rfl⟩,by decide⟩
theorem app_ok197:AppOk Tryz.prog 197 195 3 24:=⟨Tryz.underlying197,⟨Tryz.t195,_,(by kernel_rfl),rfl,rfl,rfl,rfl⟩,by decide⟩
theorem app_ok210:AppOk Tryz.prog 210 212 3 24:=⟨Tryz.underlying210,⟨Tryz.t212,_,(by kernel_rfl),rfl,rfl,rfl,rfl⟩,by decide⟩
@[reducible] noncomputable def cx (w:World) (N:Nat):Cx:=⟨Tryz.prog,tys,tys_ok,w,[],N⟩
@[reducible] noncomputable def cxM (M:List Nat) (w:World) (N:Nat):Cx:=⟨Tryz.prog,tys,tys_ok,w,M,N⟩
def spanCells (s:Int×Int):List Value:=[.int .i64 s.1,.int .i64 s.2]
theorem span_read {w:World} {A:Option Addr} {n:Nat} {l:List (Int×Int)} (h:RdS w 2 A n (l.map spanCells)) {i:Nat} (hi:i<n) :
   ∃ b o x,A=some ⟨b,o,none⟩∧b<w.heap.size∧l[i]?=some x∧w.cell? ⟨b,o+i*2,none⟩=some (.int .i64 x.1)∧w.cell? ⟨b,o+i*2+1,none⟩=some (.int .i64 x.2):=by
 obtain ⟨b,o,cs,hA,hb,hx,_,hc⟩:=h.row hi
 simp only [List.getElem?_map,Option.map_eq_some_iff] at hx
 obtain ⟨x,hx,rfl⟩:=hx
 exact ⟨b,o,x,hA,hb,hx,hc 0 _ rfl,hc 1 _ rfl⟩
end Go.Proofs.YtcjkndjjbjoehaaGreat
namespace Go.Proofs.YtcjkndjjbjoehaaGreat
open Go.RowKit
attribute [local irreducible] OQ OS OX Rd T TL GX GL AL AI RV wpG SAny Calls
def IsR (n r:Int):Prop:=0≤r∧r*r≤n∧n<(r+1)*(r+1)
theorem IsR.uniq {n r s:Int} (h:IsR n r) (k:IsR n s):r=s:=by
 have key:∀ {r s:Int},IsR n r→IsR n s→s≤r:=fun {r s} h k=>by
   rcases Int.lt_or_le r s with hlt|hle
   · have h1:(r+1)*(r+1)≤s*s:=Int.mul_le_mul (by omega) (by omega) (by have:=h.1;omega) k.1
     have:=h.2.2;have:=k.2.1
     omega
   · exact hle
 have h1:=key h k
 have h2:=key k h
 omega
noncomputable def rt (n:Int):Int:=open Classical in if h:∃ r,IsR n r then Classical.choose h else 0
theorem IsR.rt {n r:Int} (h:IsR n r):rt n=r:=by
 have hx:∃ r,IsR n r:=⟨r,h⟩
 unfold YtcjkndjjbjoehaaGreat.rt
 rw [dif_pos hx]
 exact (Classical.choose_spec hx).uniq h
theorem root_calls (n:Int) (h0:0≤n) (h1:n≤1099511627776) (w:World):Calls Tryz.prog 140 #[.int .i64 n] w fun e w'=>e=.returned (.int .i64 (rt n))∧Ext w w':=by
 refine enterQ (c:=cx w 22) Tryz.func140 rfl rfl rfl rfl ?_
 ((all_goals refine goE0e ?_);(all_goals constructor);(any_goals exact trivial);all_goals intros)
 apply t_loopK (ι:=(Int×Int)) [0,2,21] (fun (i:Int×Int)=>[(3,.int .i64 i.1),(4,.int .i64 i.2)]) (fun _=>[]) (fun i=>0≤i.1∧i.1<i.2∧i.2≤1048577∧i.1*i.1≤n∧n<i.2*i.2) (fun i=>(i.2-i.1).toNat) ((0,1048577))
 (repeat (first|exact KeepF.nil|(apply KeepF.cons;exact rfl)|apply KeepF.skip))
 (repeat first|exact FrSub.nil|(apply FrSub.cons;exact rfl))
 (repeat (first|exact HpSub.refl _|(apply HpSub.consE;(repeat first|exact P0|apply P1);exact rfl)|exact HpSub.nil))
 · simp only;omega
 rintro ⟨a,b⟩ ⟨i0,i1,i2,i3,i4⟩
 simp only at i0 i1 i2 i3 i4
 obtain ⟨m,hm⟩:∃ m,m=(a+b).tdiv 2:=⟨_,rfl⟩
 have hm0:a≤m∧m≤b∧(1<b-a→a<m∧m<b):=by
   rw [Int.tdiv_eq_ediv_of_nonneg (by omega)] at hm
   omega
 have hmm:InR (m*m):=by
   have:m*m≤1048577*1048577:=Int.mul_le_mul (by omega) (by omega) (by omega) (by omega)
   have:0≤m*m:=Int.mul_nonneg (by omega) (by omega)
   exact ⟨by omega,by omega⟩
 rw [hm] at hmm
 dsimp only
 repeat' (first|((with_reducible apply oq_id);first|(apply oq_fn;exact rfl;first|exact trivial|(and_intros<;>omega)|omega|skip))|((with_reducible apply tl_id);first|(with_reducible apply tl_nil)|((with_reducible apply u_q);(iterate 4 exact rfl)))|((with_reducible apply t_id);first|(with_reducible apply t_seq)|(apply t_region;kernel_rfl)|((with_reducible apply t_condD);exact rfl;all_goals first|(intro hp;try (exfalso;omega))|skip)|(with_reducible apply t_ret)|(with_reducible apply t_skip)|(with_reducible apply t_exit)|(with_reducible apply t_block))|with_reducible apply q_thenN|with_reducible apply q_blockN|with_reducible apply q_thenE|((with_reducible apply q_blockE);exact rfl)|(with_reducible apply end_ret)|exact rvs_nil|(with_reducible apply rvs_cons)|((with_reducible apply rv_tmp);exact rfl))
 · rw [← hm] at *
   refine ⟨(m,b),⟨by simp only;omega,by simp only;omega,i2,hp,i4⟩,by simp only;omega,?_,?_⟩
   · (repeat first|exact FrSub.nil|(apply FrSub.cons;exact rfl))
   · (repeat (first|exact HpSub.refl _|(apply HpSub.consE;(repeat first|exact P0|apply P1);exact rfl)|exact HpSub.nil))
 · rw [← hm] at *
   refine ⟨(a,m),⟨i0,by simp only;omega,by simp only;omega,i3,by simp only;omega⟩,by simp only;omega,?_,?_⟩
   · (repeat first|exact FrSub.nil|(apply FrSub.cons;exact rfl))
   · (repeat (first|exact HpSub.refl _|(apply HpSub.consE;(repeat first|exact P0|apply P1);exact rfl)|exact HpSub.nil))
 · obtain rfl:b=a+1:=by omega
   rw [IsR.rt ⟨i0,i3,i4⟩];rfl
def fineS (s:Int×Int):Bool:=decide (s.1≤s.2) && (decide (-1099511627776≤s.1) && decide (s.2≤1099511627776))
theorem fineS_iff (s:Int×Int):fineS s=true↔s.1≤s.2∧-1099511627776≤s.1∧s.2≤1099511627776:=by
 unfold fineS;simp [Bool.and_eq_true]
theorem all_not {l:List (Int×Int)} {k:Nat} {x:Int×Int} (h:l[k]?=some x) (hx:fineS x=false):l.all fineS=false:=by
 rw [Bool.eq_false_iff,Ne,List.all_eq_true]
 intro h2
 have:=h2 x (List.mem_of_getElem? h)
 rw [hx] at this
 cases this
theorem fine_calls (A:Option Addr) (n c:Nat) (l:List (Int×Int)) (w:World) (hr:RdS w 2 A n (l.map spanCells)) (hn:n≤1000000):Calls Tryz.prog 122 #[.slice A n c] w fun e w'=>e=.returned (.bool (l.all fineS))∧Ext w w':=by
 have hl:=hr.len
 simp only [List.length_map] at hl
 refine enterQ (c:=cx w 27) Tryz.func122 rfl rfl rfl rfl ?_
 ((all_goals refine goE0e ?_);(all_goals constructor);(any_goals exact trivial);all_goals intros)
 apply t_loopK (ι:=Nat) [5,6] (fun k=>[(7,.int .i64 (k:Nat))]) (fun _=>[]) (fun k=>k≤n∧∀ s∈l.take k,fineS s=true) (fun k=>n-k) (0)
 (repeat (first|exact KeepF.nil|(apply KeepF.cons;exact rfl)|apply KeepF.skip))
 (repeat first|exact FrSub.nil|(apply FrSub.cons;exact rfl))
 (repeat (first|exact HpSub.refl _|(apply HpSub.consE;(repeat first|exact P0|apply P1);exact rfl)|exact HpSub.nil))
 · exact ⟨by omega,by simp⟩
 intro k hk
 try simp only [List.cons_append,List.nil_append]
 by_cases hlt:k<n
 · obtain ⟨b1,o1,x,rfl,_,hkx2,c0,c1⟩:=span_read hr hlt
   ((all_goals refine goE0e ?_);(all_goals constructor);(any_goals exact trivial);all_goals intros)
   iterate 3 (rw [all_not hkx2 (by rw [Bool.eq_false_iff,Ne,fineS_iff];omega)];rfl)
   have hx:fineS x=true:=by rw [fineS_iff];omega
   refine ⟨k+1,⟨by omega,fun s hs=>?_⟩,by omega,?_,?_⟩
   · rw [List.take_add_one,hkx2,List.mem_append] at hs
     rcases hs with hs|hs
     · exact hk.2 s hs
     · obtain rfl:s=x:=by simpa using hs
       exact hx
   · try simp only [List.cons_append,List.nil_append]
     (repeat first|exact FrSub.nil|(apply FrSub.cons;exact rfl))
   · try simp only [List.cons_append,List.nil_append]
     (repeat (first|exact HpSub.refl _|(apply HpSub.consE;(repeat first|exact P0|apply P1);exact rfl)|exact HpSub.nil))
 · have hkn:l.take k=l:=List.take_of_length_le (by omega)
   ((all_goals refine goE0e ?_);(all_goals constructor);(any_goals exact trivial);all_goals intros)
   rw [show l.all fineS=true from List.all_eq_true.2 (fun s hs=>hk.2 s (by rw [hkn];exact hs))]
   rfl
theorem fine1 {w0:World} {M:Ms} {H H':Hp} {w:World} {g:Nat} {a b:Int} {tg:Tg} {cp:Nat} {q:Bool} (hq:fineS (a,b)=q) (h:Has w0 M H w) (p:Pick H g [.int .i64 a,.int .i64 b] tg H') :
   Calls Tryz.prog 122 #[.slice (some ⟨g,0,none⟩) 1 cp] w fun e w'=>e=.returned (.bool q)∧Ext w w':=by
 have:=fine_calls (some ⟨g,0,none⟩) 1 cp [(a,b)] w (Blk.rows (k:=2) (rows:=[(a,b)].map spanCells) (h.blk _ p.mem).2 rfl (by simp [spanCells])) (by omega)
 simp only [List.all_cons,List.all_nil,Bool.and_true,hq] at this
 exact this
theorem fine2 {w0:World} {M:Ms} {H H':Hp} {w:World} {g:Nat} {a b a' b':Int} {tg:Tg} {cp:Nat} {q:Bool} (hq:(fineS (a,b) && fineS (a',b'))=q) (h:Has w0 M H w) (p:Pick H g [.int .i64 a,.int .i64 b,.int .i64 a',.int .i64 b'] tg H') :
   Calls Tryz.prog 122 #[.slice (some ⟨g,0,none⟩) 2 cp] w fun e w'=>e=.returned (.bool q)∧Ext w w':=by
 have:=fine_calls (some ⟨g,0,none⟩) 2 cp [(a,b),(a',b')] w (Blk.rows (k:=2) (rows:=[(a,b),(a',b')].map spanCells) (h.blk _ p.mem).2 rfl (by simp [spanCells])) (by omega)
 simp only [List.all_cons,List.all_nil,Bool.and_true,hq] at this
 exact this
theorem check_calls (a b:Int) (w:World):Calls Tryz.prog 89 #[.agg #[.int .i64 a,.int .i64 b]] w fun e w'=>e=.returned (.int .i64 (if fineS (a,b) then 0 else 10))∧Ext w w':=by
 obtain ⟨q,hq⟩:∃ q,fineS (a,b)=q:=⟨_,rfl⟩
 rw [hq]
 refine enterQ (c:=cx w 7) Tryz.func89 rfl rfl rfl rfl ?_
 ((all_goals refine goE0e ?_);(all_goals constructor);(any_goals exact trivial);all_goals intros)
 all_goals (cases q<;>first|rfl|simp_all)
noncomputable def rootV (a b:Int):Int×Int×Int:=if fineS (a,b) then (if a<0 then (0,0,2) else (rt a,(if rt b*rt b=b then rt b else rt b+1),0)) else (0,0,10)
theorem isR_ex:∀ (n:Nat),∃ r,IsR (n:Int) r
 | 0=>⟨0,by omega,by omega,by omega⟩
 | n+1=>by
   obtain ⟨r,h1,h2,h3⟩:=isR_ex n
   by_cases h:(r+1)*(r+1)≤((n+1:Nat):Int)
   · refine ⟨r+1,by omega,h,?_⟩
     have:(r+1+1)*(r+1+1)=(r+1)*(r+1)+2*(r+1)+1:=by
       simp only [Int.mul_add,Int.add_mul,Int.mul_one,Int.one_mul];omega
     omega
   · exact ⟨r,h1,by omega,by omega⟩
theorem rt_spec (n:Int) (h0:0≤n):IsR n (rt n):=by
 obtain ⟨r,hr⟩:=isR_ex n.toNat
 rw [Int.toNat_of_nonneg h0] at hr
 rw [hr.rt]
 exact hr
theorem boundRoot_calls (a b:Int) (w:World):Calls Tryz.prog 118 #[.agg #[.int .i64 a,.int .i64 b]] w fun e w'=>e=.returned (.tuple #[.agg #[.int .i64 (rootV a b).1,.int .i64 (rootV a b).2.1],.int .i64 (rootV a b).2.2])∧Ext w w':=by
 obtain ⟨q,hq⟩:∃ q,fineS (a,b)=q:=⟨_,rfl⟩
 unfold rootV
 cases q with
 | false=>
   rw [hq]
   refine enterQ (c:=cx w 36) Tryz.func118 rfl rfl rfl rfl ?_
   ((all_goals refine goE0e ?_);(all_goals constructor);(any_goals exact trivial);all_goals intros)
   all_goals rfl
 | true=>
   have hf:=(fineS_iff _).1 hq
   simp only at hf
   rw [hq,if_pos rfl]
   by_cases ha:a<0
   · rw [if_pos ha]
     refine enterQ (c:=cx w 36) Tryz.func118 rfl rfl rfl rfl ?_
     ((all_goals refine goE0e ?_);(all_goals constructor);(any_goals exact trivial);all_goals intros)
     all_goals rfl
   · rw [if_neg ha]
     have hb:=rt_spec b (by omega)
     have hbb:rt b≤1048576:=by
       rcases Int.lt_or_le 1048576 (rt b) with h|h
       · have:1048577*1048577≤rt b*rt b:=Int.mul_le_mul (by omega) (by omega) (by omega) (by omega)
         have:=hb.2.1
         omega
       · exact h
     have hb0:0≤rt b:=hb.1
     have hmm:InR (rt b*rt b):=by
       have:=Int.mul_nonneg hb0 hb0
       have:=hb.2.1
       exact ⟨by omega,by omega⟩
     refine enterQ (c:=cx w 36) Tryz.func118 rfl rfl rfl rfl ?_
     repeat' (first|((with_reducible apply oq_id);first|(apply oq_fn;exact rfl;first|exact trivial|(and_intros<;>omega)|omega|skip)|((with_reducible apply oq_load);exact rfl;exact rfl)|((with_reducible apply oq_loadAgg);exact rfl;exact rfl)|((with_reducible apply oq_call (hc:=Tryz.call122));exact rfl;exact rfl;exact fun D w1 hw1=>fine1 hq hw1 (by (repeat first|exact P0|apply P1)))|((with_reducible apply oq_call (hc:=Tryz.call140));exact rfl;exact rfl;exact fun D w1 hw1=>root_calls _ (by omega) (by omega) w1)|((with_reducible apply oq_build);(iterate 3 exact rfl)))|((with_reducible apply tl_id);first|(with_reducible apply tl_nil)|((with_reducible apply u_q);(iterate 4 exact rfl))|((with_reducible apply u_s0);exact rfl;exact rfl)|((with_reducible apply u_s);(iterate 3 exact rfl)))|((with_reducible apply gx_id);first|(with_reducible apply v_nil)|((with_reducible apply v_q);(iterate 3 exact rfl)))|((with_reducible apply os_id);first|((with_reducible apply os_x);exact rfl)|((with_reducible apply os_store);(iterate 4 exact rfl))|((with_reducible apply os_storeAgg);(iterate 5 exact rfl)))|((with_reducible apply ox_id);first|((with_reducible apply ox_alloc);exact rfl;intro _)|((with_reducible apply ox_boxAgg);exact rfl;intro _)|((with_reducible apply ox_buildSlice2);(iterate 6 exact rfl);intro _))|((with_reducible apply ai_id);first|((with_reducible apply ai_x);(iterate 5 exact rfl))|((with_reducible apply ai_n0);(iterate 3 exact rfl)))|((with_reducible apply al_keep);focus (repeat first|exact HpSub.refl _|(apply HpSub.cons;(repeat first|exact P0|apply P1))|exact HpSub.nil))|((with_reducible apply rd_id);first|(apply Rd.own;(repeat first|exact P0|apply P1);exact rfl;done))|((with_reducible apply t_id);first|(with_reducible apply t_seq)|(apply t_region;kernel_rfl)|((with_reducible apply t_condF);exact rfl)|((with_reducible apply t_condD);exact rfl;all_goals first|(intro hp;try (exfalso;omega))|skip)|((with_reducible apply t_condN);exact rfl;all_goals first|(intro hp;try (exfalso;omega))|skip)|(with_reducible apply t_ret)|(with_reducible apply t_skip)|(with_reducible apply t_block))|with_reducible apply q_thenN|with_reducible apply q_blockN|exact P0|(with_reducible apply P1)|exact Rdn.zero|apply Rdn.succ|((with_reducible apply Norm.nil);exact rfl)|((with_reducible apply Norm.cons);exact rfl)|(with_reducible apply end_ret)|exact rvs_nil|(with_reducible apply rvs_cons)|((with_reducible apply rv_tmp);exact rfl)|((with_reducible apply rv_cellAgg);exact rfl;exact rfl)|(apply t_mix (id:=5) [0,1,2,3,4,5,6] 2 #[false,false,false,false,false,false,false,false,false];kernel_rfl;kernel_rfl;exact rfl)|((with_reducible apply al_id);first|(apply al_done;decide +kernel)|(apply al_one 7;decide +kernel)|(apply al_one 8;decide +kernel))|exact Nat.le_of_ble_eq_true rfl)
     · rw [if_neg (by assumption)];rfl
     · rw [if_pos (by assumption)];rfl
def windE (a b c d:Int):Int:=if fineS (a,b) && fineS (c,d) then (if allFrom (-2000) 2000 [a,b,c,d] then 0 else 2) else 10
theorem fromS4 {w0:World} {M:Ms} {H H':Hp} {w:World} {g:Nat} {a b c d lo hi:Int} {tg:Tg} {cp:Nat} {q:Bool} (hq:allFrom lo hi [a,b,c,d]=q) (h:Has w0 M H w) (p:Pick H g [.int .i64 a,.int .i64 b,.int .i64 c,.int .i64 d] tg H') :
   Calls Tryz.prog 120 #[.int .i64 lo,.int .i64 hi,.slice (some ⟨g,0,none⟩) 4 cp] w fun e w'=>e=.returned (.bool q)∧Ext w w':=
 hq ▸ from_calls lo hi (some ⟨g,0,none⟩) 4 cp [a,b,c,d] w (Blk.rows (k:=1) (rows:=[a,b,c,d].map fun z=>[Value.int .i64 z]) (h.blk _ p.mem).2 rfl (by simp)) (by omega)
theorem checkWind_calls (a b c d:Int) (w:World):Calls Tryz.prog 153 #[.agg #[.int .i64 a,.int .i64 b,.int .i64 c,.int .i64 d]] w fun e w'=>e=.returned (.int .i64 (windE a b c d))∧Ext w w':=by
 obtain ⟨q1,h1⟩:∃ q,fineS (a,b)=q:=⟨_,rfl⟩
 obtain ⟨q2,h2⟩:∃ q,fineS (c,d)=q:=⟨_,rfl⟩
 obtain ⟨q3,h3⟩:∃ q,allFrom (-2000) 2000 [a,b,c,d]=q:=⟨_,rfl⟩
 have H1:=fun w1=>check_calls a b w1
 have H2:=fun w1=>check_calls c d w1
 rw [h1] at H1
 rw [h2] at H2
 unfold windE
 rw [h1,h2,h3]
 refine enterQ (c:=cx w 35) Tryz.func153 rfl rfl rfl rfl ?_
 ((all_goals refine goE0e ?_);(all_goals constructor);(any_goals exact trivial);all_goals intros)
 apply t_loopK (ι:=Nat) [1,10,20,21,22,23,24,25,26,27,28,29,30,31,32,33,34] (fun k=>[(11,.int .i64 (k:Nat))]) (fun _=>[]) (fun k=>k≤2∧(1≤k→q1=true)∧(2≤k→q2=true)) (fun k=>2-k) (0)
 (repeat (first|exact KeepF.nil|(apply KeepF.cons;exact rfl)|apply KeepF.skip))
 (repeat first|exact FrSub.nil|(apply FrSub.cons;exact rfl))
 (repeat (first|exact HpSub.refl _|(apply HpSub.consE;(repeat first|exact P0|apply P1);exact rfl)|exact HpSub.nil))
 · simp
 rintro k ⟨k0,k1,k2⟩
 try simp only [List.cons_append,List.nil_append]
 have hk:k=0∨k=1∨k=2:=by omega
 rcases hk with rfl|rfl|rfl
 · cases q1 with
   | false=>
     simp only [Bool.false_eq_true,if_false] at H1
     ((all_goals refine goE0e ?_);(all_goals constructor);(any_goals exact trivial);all_goals intros)
     rfl
   | true=>
     simp only [if_true] at H1
     ((all_goals refine goE0e ?_);(all_goals constructor);(any_goals exact trivial);all_goals intros)
     refine ⟨1,⟨by omega,fun _=>rfl,fun h=>by omega⟩,by omega,?_,?_⟩
     · try simp only [List.cons_append,List.nil_append]
       (repeat first|exact FrSub.nil|(apply FrSub.cons;exact rfl))
     · try simp only [List.cons_append,List.nil_append]
       (repeat (first|exact HpSub.refl _|(apply HpSub.consE;(repeat first|exact P0|apply P1);exact rfl)|exact HpSub.nil))
 · obtain rfl:q1=true:=k1 (by omega)
   cases q2 with
   | false=>
     simp only [Bool.false_eq_true,if_false] at H2
     ((all_goals refine goE0e ?_);(all_goals constructor);(any_goals exact trivial);all_goals intros)
     rfl
   | true=>
     simp only [if_true] at H2
     repeat' (first|((with_reducible apply oq_id);first|(apply oq_fn;exact rfl;first|exact trivial|(and_intros<;>omega)|omega|skip)|((with_reducible apply oq_loadAgg);exact rfl;exact rfl)|((with_reducible apply oq_call (hc:=Tryz.call89));exact rfl;exact rfl;exact fun D w1 hw1=>H2 w1)|((with_reducible apply oq_indexAgg);(iterate 4 exact rfl)))|((with_reducible apply tl_id);first|(with_reducible apply tl_nil)|((with_reducible apply u_q);(iterate 4 exact rfl))|((with_reducible apply u_s0);exact rfl;exact rfl)|((with_reducible apply u_s);(iterate 3 exact rfl)))|((with_reducible apply os_id);first|((with_reducible apply os_x);exact rfl)|((with_reducible apply os_storeAgg);(iterate 5 exact rfl)))|((with_reducible apply ox_id);first|((with_reducible apply ox_alloc);exact rfl;intro _))|((with_reducible apply rd_id);first|(apply Rd.own;(repeat first|exact P0|apply P1);exact rfl;done))|((with_reducible apply t_id);first|(with_reducible apply t_seq)|(apply t_region;kernel_rfl)|((with_reducible apply t_condT);exact rfl)|((with_reducible apply t_condF);exact rfl)|(with_reducible apply t_skip)|(with_reducible apply t_block))|with_reducible apply q_thenN|with_reducible apply q_blockN|exact P0|exact Rdn.zero|apply Rdn.succ|((with_reducible apply Norm.nil);exact rfl)|((with_reducible apply Norm.cons);exact rfl)|exact Nat.le_of_ble_eq_true rfl|omega)
     refine ⟨2,⟨by omega,fun _=>rfl,fun _=>rfl⟩,by omega,?_,?_⟩
     · try simp only [List.cons_append,List.nil_append]
       (repeat first|exact FrSub.nil|(apply FrSub.cons;exact rfl))
     · try simp only [List.cons_append,List.nil_append]
       (repeat (first|exact HpSub.refl _|(apply HpSub.consE;(repeat first|exact P0|apply P1);exact rfl)|exact HpSub.nil))
 · obtain rfl:q1=true:=k1 (by omega)
   obtain rfl:q2=true:=k2 (by omega)
   ((all_goals refine goE0e ?_);(all_goals constructor);(any_goals exact trivial);all_goals intros)
   all_goals (cases q3<;>first|rfl|simp_all)
def nearV (a b:Int):Int:=max (max a (-b)) 0
def farV (a b:Int):Int:=max b (-a)
theorem windE_zero {a b c d:Int} (h:windE a b c d=0):a≤b∧c≤d∧-2000≤a∧b≤2000∧-2000≤c∧d≤2000:=by
 unfold windE at h
 split at h
 · rename_i h1
   simp only [Bool.and_eq_true,fineS_iff] at h1
   split at h
   · rename_i h2
     unfold allFrom at h2
     simp at h2
     omega
   · omega
 · omega
noncomputable def speedV (a b c d:Int):Int×Int×Int:=if windE a b c d=0 then rootV (nearV a b*nearV a b+nearV c d*nearV c d) (farV a b*farV a b+farV c d*farV c d) else (0,0,windE a b c d)
end Go.Proofs.YtcjkndjjbjoehaaGreat
