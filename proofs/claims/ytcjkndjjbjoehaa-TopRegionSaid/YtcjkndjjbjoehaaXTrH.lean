/- A part of the proof: rules for walks, and contracts of functions (8). -/
import Derived.Test.YtcjkndjjbjoehaaXTrG
import Derived.Test.YtcjkndjjbjoehaaXTrC
import Derived.Test.YtcjkndjjbjoehaaXTrF
import Derived.Test.YtcjkndjjbjoehaaXTrB
set_option linter.unusedVariables false
set_option linter.unusedSimpArgs false
set_option maxRecDepth 100000
set_option maxHeartbeats 2000000
namespace Go.Proofs.Ytcjkndjjbjoehaa
open Go.RowKit
attribute [local irreducible] OQ OS OX Rd T TL GX GL AL AI RV wpG SAny Calls
theorem sumNil_calls (pb po n c:Nat) (L:List Pv) (hl:L.length=n) (hL:RgOk L) (w:World) (hr:RdS w 2 (some ⟨pb,po,none⟩) n (L.map (coC Pv.x Pv.y))) :
   Calls Try.prog 97 #[.slice (some ⟨pb,po,none⟩) n c,.slice none 0 0] w fun e w'=>e=.returned (.tuple #[.slice none 0 0,.int .i64 14])∧Ext w w':=by
 refine enterQ (c:=cx w 27) Try.func97 rfl rfl rfl rfl ?_
 repeat' (first|((with_reducible apply oq_id);first|((with_reducible apply oq_neqT);exact rfl;exact rfl;omega)|(apply oq_fn;exact rfl;first|exact trivial|(and_intros<;>omega)|omega|skip)|((with_reducible apply oq_call (hc:=Try.call138));exact rfl;exact rfl;exact fun D w1 hw1=>regions2_calls _ _ _ _ _ _ _ _ 14 w1 (hw1.cellAt (by (repeat first|exact P0|apply P1)) rfl) (hw1.cellAt (by (repeat first|exact P0|apply P1)) rfl) (fun w2 e=>hL.check ⟨pb,po,none⟩ n c hl w2 (hr.ext (hw1.ext.ext.trans e))) (fun w2 e=>checkNil_calls w2)))|((with_reducible apply tl_id);first|(with_reducible apply tl_nil)|((with_reducible apply u_q);(iterate 4 exact rfl))|((with_reducible apply u_s);(iterate 3 exact rfl)))|((with_reducible apply os_id);first|((with_reducible apply os_x);exact rfl))|((with_reducible apply ox_id);first|((with_reducible apply ox_buildSlice1);(iterate 6 exact rfl);intro _))|((with_reducible apply t_id);first|(with_reducible apply t_seq)|(apply t_region;kernel_rfl)|((with_reducible apply t_condT);exact rfl)|(with_reducible apply t_ret))|with_reducible apply q_thenN|with_reducible apply q_thenR|(with_reducible apply end_ret)|exact rvs_nil|(with_reducible apply rvs_cons)|((with_reducible apply rv_tmp);exact rfl))
 all_goals rfl
theorem sumN_P (pb po n c:Nat) (L:List Pv) (hl:L.length=n) (hL:RgOk L) {a:Pv} {E F:List Pv} (rg:Rg L a E F) (qb qo m cm:Nat) (M:List Pv) (hm:M.length=m) (hM:RgOk M) {b:Pv} {G G2:List Pv} (sg:Rg M b G G2) (LL:List Sv) (hLL:LL.map Subtype.val=(E++F)++(G++G2)) (hc:(E++F).length+(G++G2).length≤48) (w:World) (hr:RdS w 2 (some ⟨pb,po,none⟩) n (L.map (coC Pv.x Pv.y))) (hs:RdS w 2 (some ⟨qb,qo,none⟩) m (M.map (coC Pv.x Pv.y))) :
   Calls Try.prog 97 #[.slice (some ⟨pb,po,none⟩) n c,.slice (some ⟨qb,qo,none⟩) m cm] w fun e w'=>∃ v H1,e=.returned v∧(∃ D,D.Pairwise (fun a b=>ltP a b=true)∧(∀ q,q∈D↔q∈path (Pv.add a b) ((srt ltS2 LL).map Subtype.val))∧((nearB (hulI D)=true∧∃ g cp,v=.tuple #[.slice (some ⟨g,0,none⟩) (hulI D).length cp,.int .i64 0]∧H1=[(g,coB Pv.x Pv.y (hulI D),some (111,2,cp))])∨(nearB (hulI D)=false∧v=.tuple #[.slice none 0 0,.int .i64 11]∧H1=[])))∧Has w ⟨[],[]⟩ H1 w':=by
 have HS:=fun w1 (e:Ext w w1)=>sum_P pb po n c L hl hL rg qb qo m cm M hm hM sg LL hLL hc w1 (hr.ext e) (hs.ext e)
 have hMl:((srt ltS2 LL).map Subtype.val).length=(E++F).length+(G++G2).length:=by rw [List.length_map,srt_len,← List.length_append,← hLL,List.length_map]
 refine enterF (c:=cx w 27) Try.func97 rfl rfl rfl rfl ?_
 refine t_cut (ι:=Unit) (fun _=>[(0,.slice (some ⟨pb,po,none⟩) n c),(1,.slice (some ⟨qb,qo,none⟩) m cm)]) (fun _=>([]:Hp)) (fun _=>True) ?_ ?_
 · repeat' (first|((with_reducible apply oq_id);first|(apply oq_fn;exact rfl;first|exact trivial|(and_intros<;>omega)|omega|skip))|((with_reducible apply tl_id);first|(with_reducible apply tl_nil)|((with_reducible apply u_q);(iterate 4 exact rfl)))|((with_reducible apply t_id);first|(apply t_region;kernel_rfl)))
   all_goals exact ⟨by trivial,(),trivial,by (repeat' (first|exact FrSub.nil|(apply FrSub.cons;exact rfl))),by (repeat' (first|exact HpSub.refl _))⟩
 rintro ⟨⟩ -
 try dsimp only
 refine t_cut (ι:=Unit) (fun _=>[(0,.slice (some ⟨pb,po,none⟩) n c),(1,.slice (some ⟨qb,qo,none⟩) m cm)]) (fun _=>([]:Hp)) (fun _=>True) ?_ ?_
 · repeat' (first|((with_reducible apply oq_id);first|((with_reducible apply oq_neqF);exact rfl;exact rfl;omega)|(apply oq_fn;exact rfl;first|exact trivial|(and_intros<;>omega)|omega|skip)|((with_reducible apply oq_call (hc:=Try.call138));exact rfl;exact rfl;exact fun D w1 hw1=>regions2_calls _ _ _ _ _ _ _ _ 0 w1 (hw1.cellAt (by (repeat first|exact P0|apply P1)) rfl) (hw1.cellAt (by (repeat first|exact P0|apply P1)) rfl) (fun w2 e=>hL.check ⟨pb,po,none⟩ n c hl w2 (hr.ext (hw1.ext.ext.trans e))) (fun w2 e=>hM.check ⟨qb,qo,none⟩ m cm hm w2 (hs.ext (hw1.ext.ext.trans e)))))|((with_reducible apply tl_id);first|(with_reducible apply tl_nil)|((with_reducible apply u_q);(iterate 4 exact rfl))|((with_reducible apply u_s);(iterate 3 exact rfl)))|((with_reducible apply os_id);first|((with_reducible apply os_x);exact rfl))|((with_reducible apply ox_id);first|((with_reducible apply ox_buildSlice1);(iterate 6 exact rfl);intro _))|((with_reducible apply t_id);first|(with_reducible apply t_seq)|(apply t_region;kernel_rfl)|((with_reducible apply t_condF);exact rfl)|(with_reducible apply t_skip))|with_reducible apply q_thenN)
   all_goals exact ⟨by trivial,(),trivial,by (repeat' (first|exact FrSub.nil|(apply FrSub.cons;exact rfl))),by (repeat' (first|exact HpSub.refl _|apply HpSub.skipX))⟩
 rintro ⟨⟩ -
 try dsimp only
 refine t_cut (ι:=Nat×Nat×List Pv) (fun z=>[(7,.slice (some ⟨z.1,0,none⟩) (hulI z.2.2).length z.2.1)]) (fun z=>[(z.1,coB Pv.x Pv.y (hulI z.2.2),some (111,2,z.2.1))]) (fun z=>z.2.2.Pairwise (fun a b=>ltP a b=true)∧(∀ q,q∈z.2.2↔q∈path (Pv.add a b) ((srt ltS2 LL).map Subtype.val))) ?_ ?_
 · repeat' (first|((with_reducible apply oq_id);first|(apply oq_fn;exact rfl;first|exact trivial|(and_intros<;>omega)|omega|skip))|((with_reducible apply tl_id);first|(with_reducible apply tl_nil)|((with_reducible apply u_s);(iterate 3 exact rfl);(with_reducible apply os_callF (PV:=fun v H'=>∃ g cp D,D.Pairwise (fun a b=>ltP a b=true)∧(∀ q,q∈D↔q∈path (Pv.add a b) ((srt ltS2 LL).map Subtype.val))∧v=.slice (some ⟨g,0,none⟩) (hulI D).length cp∧H'=[(g,coB Pv.x Pv.y (hulI D),some (111,2,cp))]) (hc:=Try.call139));exact rfl;exact rfl;exact fun D w1 hw1=>HS w1 hw1.ext.ext;rintro _ _ ⟨g,cp,Dq,h3,h4,rfl,rfl⟩;simp only [List.cons_append,List.nil_append])|((with_reducible apply u_q);(iterate 4 exact rfl)))|((with_reducible apply t_id);first|(apply t_region;kernel_rfl)))
   all_goals exact ⟨by trivial,(g,cp,Dq),⟨h3,h4⟩,by (repeat' (first|exact FrSub.nil|(apply FrSub.cons;exact rfl))),by (repeat' (first|exact HpSub.refl _))⟩
 rintro ⟨g,cp,Dq⟩ ⟨h3,h4⟩
 simp only at h3 h4
 try dsimp only
 have hne:Dq≠[]:=fun e=>by
   have:=(h4 (Pv.add a b)).2 (mem_path_hd _ _)
   rw [e] at this;cases this
 have hl1:=hulI_len hne h3
 have hl2:=nodup_sub (inc_nodup h3) (fun v hv=>(h4 v).1 hv)
 rw [path_len,hMl] at hl2
 have HN:=fun w1 (h:RdS w1 2 (some ⟨g,0,none⟩) (hulI Dq).length ((hulI Dq).map (coC Pv.x Pv.y)))=>nearB_calls ⟨g,0,none⟩ (hulI Dq).length cp (hulI Dq) rfl (by omega) w1 h
 cases hN:nearB (hulI Dq) with
 | true=>
   rw [hN] at HN
   repeat' (first|((with_reducible apply oq_id);first|((with_reducible apply oq_gtrF);exact rfl;exact rfl;omega)|(apply oq_fn;exact rfl;first|exact trivial|(and_intros<;>omega)|omega|skip)|((with_reducible apply oq_call (hc:=Try.call108));exact rfl;exact rfl;exact fun D w1 hw1=>HN w1 (Blk.rows (hw1.blkP (by (repeat first|exact P0|apply P1))) (by rw [List.length_map]) (co_rl _))))|((with_reducible apply tl_id);first|(with_reducible apply tl_nil)|((with_reducible apply u_q);(iterate 4 exact rfl)))|((with_reducible apply t_id);first|(with_reducible apply t_seq)|(apply t_region;kernel_rfl)|((with_reducible apply t_condF);exact rfl)|(with_reducible apply t_ret)|(with_reducible apply t_skip)|(with_reducible apply t_block))|with_reducible apply q_thenN|with_reducible apply q_blockN|(with_reducible apply end_ret)|exact rvs_nil|(with_reducible apply rvs_cons)|((with_reducible apply rv_tmp);exact rfl))
   all_goals exact ⟨_,⟨Dq,h3,h4,.inl ⟨hN,g,cp,rfl,rfl⟩⟩,by (repeat' (first|exact HpSub.refl _))⟩
 | false=>
   rw [hN] at HN
   repeat' (first|((with_reducible apply oq_id);first|(apply oq_fn;exact rfl;first|exact trivial|(and_intros<;>omega)|omega|skip)|((with_reducible apply oq_call (hc:=Try.call108));exact rfl;exact rfl;exact fun D w1 hw1=>HN w1 (Blk.rows (hw1.blkP (by (repeat first|exact P0|apply P1))) (by rw [List.length_map]) (co_rl _))))|((with_reducible apply tl_id);first|(with_reducible apply tl_nil)|((with_reducible apply u_q);(iterate 4 exact rfl)))|((with_reducible apply t_id);first|(with_reducible apply t_seq)|(apply t_region;kernel_rfl)|((with_reducible apply t_condT);exact rfl)|(with_reducible apply t_ret)|(with_reducible apply t_block))|with_reducible apply q_thenN|with_reducible apply q_thenR|with_reducible apply q_blockR|(with_reducible apply end_ret)|exact rvs_nil|(with_reducible apply rvs_cons)|((with_reducible apply rv_tmp);exact rfl))
   all_goals exact ⟨_,⟨Dq,h3,h4,.inr ⟨hN,rfl,rfl⟩⟩,by (repeat' (first|exact HpSub.refl _|apply HpSub.skipX))⟩
def ldCells (x:Ld):List Value:=[.int .i64 x.al,.int .i64 x.ah,.int .i64 x.wl,.int .i64 x.wh]
def spB (lo hi m:Int):Bool:=decide (lo≤hi∧-m≤lo∧hi≤m)
def Ld.okB (x:Ld):Bool:=spB x.al x.ah 20000 && spB x.wl x.wh 1073741824
theorem okB_iff {x:Ld}:x.okB=true↔x.Ok:=by
 unfold Ld.okB spB
 rw [Bool.and_eq_true,decide_eq_true_eq,decide_eq_true_eq]
 exact ⟨fun h=>⟨h.1.2.1,h.1.1,h.1.2.2,h.2.2.1,h.2.1,h.2.2.2⟩,fun h=>⟨⟨h.a1,h.a0,h.a2⟩,h.w1,h.w0,h.w2⟩⟩
def chkE (l:List Ld):Int:=if 40<l.length then 4 else if l.all Ld.okB=true then 0 else 40
theorem chkE_0 {l:List Ld} (h:chkE l=0):l.length≤40∧∀ x∈l,x.Ok:=by
 unfold chkE at h
 split at h
 · cases h
 · split at h
   · rename_i h1 h2
     exact ⟨by omega,fun x hx=>okB_iff.1 (List.all_eq_true.1 h2 x hx)⟩
   · cases h
theorem ranged_calls (n lo hi:Int) (w:World):Calls Try.prog 141 #[.int .i64 n,.int .i64 lo,.int .i64 hi] w fun e w'=>e=.returned (.bool (decide (lo≤n∧n≤hi)))∧Ext w w':=by
 obtain ⟨bv,hbv⟩:∃ b,decide (lo≤n∧n≤hi)=b:=⟨_,rfl⟩
 rw [hbv]
 refine enterQ (c:=cx w 15) Try.func141 rfl rfl rfl rfl ?_
 by_cases h1:lo≤n
 · by_cases h2:n≤hi
   · obtain rfl:bv=true:=by rw [← hbv];exact decide_eq_true ⟨h1,h2⟩
     repeat' (first|((with_reducible apply oq_id);first|((with_reducible apply oq_leqT);exact rfl;exact rfl;omega)|((with_reducible apply oq_geqT);exact rfl;exact rfl;omega)|(apply oq_fn;exact rfl;first|exact trivial|(and_intros<;>omega)|omega|skip))|((with_reducible apply tl_id);first|(with_reducible apply tl_nil)|((with_reducible apply u_q);(iterate 4 exact rfl)))|((with_reducible apply t_id);first|(with_reducible apply t_seq)|(apply t_region;kernel_rfl)|(with_reducible apply t_ret))|with_reducible apply q_thenN|(with_reducible apply end_ret)|exact rvs_nil|(with_reducible apply rvs_cons)|((with_reducible apply rv_tmp);exact rfl))
     all_goals rfl
   · obtain rfl:bv=false:=by rw [← hbv];exact decide_eq_false fun h=>h2 h.2
     repeat' (first|((with_reducible apply oq_id);first|((with_reducible apply oq_leqF);exact rfl;exact rfl;omega)|((with_reducible apply oq_geqT);exact rfl;exact rfl;omega)|(apply oq_fn;exact rfl;first|exact trivial|(and_intros<;>omega)|omega|skip))|((with_reducible apply tl_id);first|(with_reducible apply tl_nil)|((with_reducible apply u_q);(iterate 4 exact rfl)))|((with_reducible apply t_id);first|(with_reducible apply t_seq)|(apply t_region;kernel_rfl)|(with_reducible apply t_ret))|with_reducible apply q_thenN|(with_reducible apply end_ret)|exact rvs_nil|(with_reducible apply rvs_cons)|((with_reducible apply rv_tmp);exact rfl))
     all_goals rfl
 · obtain rfl:bv=false:=by rw [← hbv];exact decide_eq_false fun h=>h1 h.1
   repeat' (first|((with_reducible apply oq_id);first|((with_reducible apply oq_geqF);exact rfl;exact rfl;omega)|(apply oq_fn;exact rfl;first|exact trivial|(and_intros<;>omega)|omega|skip))|((with_reducible apply tl_id);first|(with_reducible apply tl_nil)|((with_reducible apply u_q);(iterate 4 exact rfl))|((with_reducible apply u_skip);(iterate 3 exact rfl)))|((with_reducible apply t_id);first|(with_reducible apply t_seq)|(apply t_region;kernel_rfl)|(with_reducible apply t_ret))|with_reducible apply q_thenN|(with_reducible apply end_ret)|exact rvs_nil|(with_reducible apply rvs_cons)|((with_reducible apply rv_tmp);exact rfl))
   all_goals rfl
theorem span_calls4 (lo hi m:Int) (hm:0≤m∧m≤1073741824) (w:World):Calls Try.prog 95 #[.agg #[.int .i64 lo,.int .i64 hi],.int .i64 m] w fun e w'=>e=.returned (.bool (spB lo hi m))∧Ext w w':=by
 obtain ⟨bv,hbv⟩:∃ b,spB lo hi m=b:=⟨_,rfl⟩
 rw [hbv]
 unfold spB at hbv
 refine enterQ (c:=cx w 23) Try.func95 rfl rfl rfl rfl ?_
 by_cases h1:lo≤hi
 · by_cases h2 : -m≤lo
   · by_cases h3:hi≤m
     · obtain rfl:bv=true:=by rw [← hbv];exact decide_eq_true ⟨h1,h2,h3⟩
       repeat' (first|((with_reducible apply oq_id);first|((with_reducible apply oq_leqT);exact rfl;exact rfl;omega)|((with_reducible apply oq_geqT);exact rfl;exact rfl;omega)|(apply oq_fn;exact rfl;first|exact trivial|(and_intros<;>omega)|omega|skip)|((with_reducible apply oq_load);exact rfl;exact rfl))|((with_reducible apply tl_id);first|(with_reducible apply tl_nil)|((with_reducible apply u_q);(iterate 4 exact rfl))|((with_reducible apply u_s);(iterate 3 exact rfl)))|((with_reducible apply os_id);first|((with_reducible apply os_x);exact rfl))|((with_reducible apply ox_id);first|((with_reducible apply ox_boxAgg);exact rfl;intro _))|((with_reducible apply rd_id);first|(apply Rd.own;(repeat first|exact P0|apply P1);exact rfl;done))|((with_reducible apply t_id);first|(with_reducible apply t_seq)|(apply t_region;kernel_rfl)|(with_reducible apply t_ret))|with_reducible apply q_thenN|(with_reducible apply end_ret)|exact rvs_nil|(with_reducible apply rvs_cons)|((with_reducible apply rv_tmp);exact rfl))
       all_goals rfl
     · obtain rfl:bv=false:=by rw [← hbv];exact decide_eq_false fun h=>h3 h.2.2
       repeat' (first|((with_reducible apply oq_id);first|((with_reducible apply oq_leqT);exact rfl;exact rfl;omega)|((with_reducible apply oq_leqF);exact rfl;exact rfl;omega)|((with_reducible apply oq_geqT);exact rfl;exact rfl;omega)|(apply oq_fn;exact rfl;first|exact trivial|(and_intros<;>omega)|omega|skip)|((with_reducible apply oq_load);exact rfl;exact rfl))|((with_reducible apply tl_id);first|(with_reducible apply tl_nil)|((with_reducible apply u_q);(iterate 4 exact rfl))|((with_reducible apply u_s);(iterate 3 exact rfl)))|((with_reducible apply os_id);first|((with_reducible apply os_x);exact rfl))|((with_reducible apply ox_id);first|((with_reducible apply ox_boxAgg);exact rfl;intro _))|((with_reducible apply rd_id);first|(apply Rd.own;(repeat first|exact P0|apply P1);exact rfl;done))|((with_reducible apply t_id);first|(with_reducible apply t_seq)|(apply t_region;kernel_rfl)|(with_reducible apply t_ret))|with_reducible apply q_thenN|(with_reducible apply end_ret)|exact rvs_nil|(with_reducible apply rvs_cons)|((with_reducible apply rv_tmp);exact rfl))
       all_goals rfl
   · obtain rfl:bv=false:=by rw [← hbv];exact decide_eq_false fun h=>h2 h.2.1
     repeat' (first|((with_reducible apply oq_id);first|((with_reducible apply oq_leqT);exact rfl;exact rfl;omega)|((with_reducible apply oq_geqF);exact rfl;exact rfl;omega)|(apply oq_fn;exact rfl;first|exact trivial|(and_intros<;>omega)|omega|skip)|((with_reducible apply oq_load);exact rfl;exact rfl))|((with_reducible apply tl_id);first|(with_reducible apply tl_nil)|((with_reducible apply u_q);(iterate 4 exact rfl))|((with_reducible apply u_s);(iterate 3 exact rfl))|((with_reducible apply u_skip);(iterate 3 exact rfl)))|((with_reducible apply os_id);first|((with_reducible apply os_x);exact rfl))|((with_reducible apply ox_id);first|((with_reducible apply ox_boxAgg);exact rfl;intro _))|((with_reducible apply rd_id);first|(apply Rd.own;(repeat first|exact P0|apply P1);exact rfl;done))|((with_reducible apply t_id);first|(with_reducible apply t_seq)|(apply t_region;kernel_rfl)|(with_reducible apply t_ret))|with_reducible apply q_thenN|(with_reducible apply end_ret)|exact rvs_nil|(with_reducible apply rvs_cons)|((with_reducible apply rv_tmp);exact rfl))
     all_goals rfl
 · obtain rfl:bv=false:=by rw [← hbv];exact decide_eq_false fun h=>h1 h.1
   repeat' (first|((with_reducible apply oq_id);first|((with_reducible apply oq_leqF);exact rfl;exact rfl;omega)|(apply oq_fn;exact rfl;first|exact trivial|(and_intros<;>omega)|omega|skip)|((with_reducible apply oq_load);exact rfl;exact rfl))|((with_reducible apply tl_id);first|(with_reducible apply tl_nil)|((with_reducible apply u_q);(iterate 4 exact rfl))|((with_reducible apply u_s);(iterate 3 exact rfl))|((with_reducible apply u_skip);(iterate 3 exact rfl)))|((with_reducible apply os_id);first|((with_reducible apply os_x);exact rfl))|((with_reducible apply ox_id);first|((with_reducible apply ox_boxAgg);exact rfl;intro _))|((with_reducible apply rd_id);first|(apply Rd.own;(repeat first|exact P0|apply P1);exact rfl;done))|((with_reducible apply t_id);first|(with_reducible apply t_seq)|(apply t_region;kernel_rfl)|(with_reducible apply t_ret))|with_reducible apply q_thenN|(with_reducible apply end_ret)|exact rvs_nil|(with_reducible apply rvs_cons)|((with_reducible apply rv_tmp);exact rfl))
   all_goals rfl
theorem check1_calls (x:Ld) (w:World):Calls Try.prog 94 #[.agg ⟨ldCells x⟩] w fun e w'=>e=.returned (.bool x.okB)∧Ext w w':=by
 have H1:=fun w1=>span_calls4 x.al x.ah 20000 (by omega) w1
 have H2:=fun w1=>span_calls4 x.wl x.wh 1073741824 (by omega) w1
 unfold Ld.okB
 obtain ⟨b1,e1⟩:∃ b,spB x.al x.ah 20000=b:=⟨_,rfl⟩
 obtain ⟨b2,e2⟩:∃ b,spB x.wl x.wh 1073741824=b:=⟨_,rfl⟩
 rw [e1] at H1 ⊢
 rw [e2] at H2 ⊢
 unfold ldCells
 refine enterQ (c:=cx w 11) Try.func94 rfl rfl rfl rfl ?_
 cases b1
 · repeat' (first|((with_reducible apply oq_id);first|(apply oq_fn;exact rfl;first|exact trivial|(and_intros<;>omega)|omega|skip)|((with_reducible apply oq_loadAgg);exact rfl;exact rfl)|((with_reducible apply oq_call (hc:=Try.call95));exact rfl;exact rfl;exact fun D w1 hw1=>H1 w1))|((with_reducible apply tl_id);first|(with_reducible apply tl_nil)|((with_reducible apply u_q);(iterate 4 exact rfl))|((with_reducible apply u_s);(iterate 3 exact rfl))|((with_reducible apply u_skip);(iterate 3 exact rfl)))|((with_reducible apply os_id);first|((with_reducible apply os_x);exact rfl))|((with_reducible apply ox_id);first|((with_reducible apply ox_boxAgg);exact rfl;intro _))|((with_reducible apply rd_id);first|(apply Rd.own;(repeat first|exact P0|apply P1);exact rfl;done))|((with_reducible apply t_id);first|(with_reducible apply t_seq)|(apply t_region;kernel_rfl)|(with_reducible apply t_ret))|with_reducible apply q_thenN|exact Rdn.zero|apply Rdn.succ|(with_reducible apply end_ret)|exact rvs_nil|(with_reducible apply rvs_cons)|((with_reducible apply rv_tmp);exact rfl))
   all_goals rfl
 · repeat' (first|((with_reducible apply oq_id);first|(apply oq_fn;exact rfl;first|exact trivial|(and_intros<;>omega)|omega|skip)|((with_reducible apply oq_loadAgg);exact rfl;exact rfl)|((with_reducible apply oq_call (hc:=Try.call95));exact rfl;exact rfl;exact fun D w1 hw1=>H1 w1)|((with_reducible apply oq_call (hc:=Try.call95));exact rfl;exact rfl;exact fun D w1 hw1=>H2 w1))|((with_reducible apply tl_id);first|(with_reducible apply tl_nil)|((with_reducible apply u_q);(iterate 4 exact rfl))|((with_reducible apply u_s);(iterate 3 exact rfl)))|((with_reducible apply os_id);first|((with_reducible apply os_x);exact rfl))|((with_reducible apply ox_id);first|((with_reducible apply ox_boxAgg);exact rfl;intro _))|((with_reducible apply rd_id);first|(apply Rd.own;(repeat first|exact P0|apply P1);exact rfl;done))|((with_reducible apply t_id);first|(with_reducible apply t_seq)|(apply t_region;kernel_rfl)|(with_reducible apply t_ret))|with_reducible apply q_thenN|exact Rdn.zero|apply Rdn.succ|(with_reducible apply end_ret)|exact rvs_nil|(with_reducible apply rvs_cons)|((with_reducible apply rv_tmp);exact rfl))
   all_goals (cases b2<;>rfl)
theorem ld_row {w:World} {A:Option Addr} {n:Nat} {l:List Ld} (hr:RdS w 4 A n (l.map ldCells)) {i:Nat} (hi:i<n):∃ B O x,A=some ⟨B,O,none⟩∧l[i]?=some x∧w.cell? ⟨B,O+i*4+0,none⟩=some (.int .i64 x.al)∧w.cell? ⟨B,O+i*4+1,none⟩=some (.int .i64 x.ah)∧w.cell? ⟨B,O+i*4+2,none⟩=some (.int .i64 x.wl)∧w.cell? ⟨B,O+i*4+3,none⟩=some (.int .i64 x.wh):=by
 have hl:=hr.len
 rw [List.length_map] at hl
 obtain ⟨B,O,e,_,hc⟩:=hr.at_ (by omega)
 obtain ⟨x,hx⟩:∃ x,l[i]?=some x:=⟨_,List.getElem?_eq_getElem (by omega)⟩
 have hrow:(l.map ldCells)[i]?=some (ldCells x):=by rw [List.getElem?_map,hx];rfl
 exact ⟨B,O,x,e,hx,(hc i _ hrow).2 0 _ rfl,(hc i _ hrow).2 1 _ rfl,(hc i _ hrow).2 2 _ rfl,(hc i _ hrow).2 3 _ rfl⟩
theorem checked_calls (A:Option Addr) (n c:Nat) (l:List Ld) (hn:n≤1000000000) (w:World) (hr:RdS w 4 A n (l.map ldCells)):Calls Try.prog 93 #[.slice A n c,.int .i64 40,.func (.func 94) #[] #[],.int .i64 40] w fun e w'=>e=.returned (.int .i64 (chkE l))∧Ext w w':=by
 have hl:l.length=n:=by have:=hr.len;rwa [List.length_map] at this
 obtain ⟨bv,hbv⟩:∃ b,chkE l=b:=⟨_,rfl⟩
 rw [hbv]
 unfold chkE at hbv
 refine enterQ (c:=cx w 27) Try.func93 rfl rfl rfl rfl ?_
 by_cases h40:40<n
 · obtain rfl:bv=4:=by rw [← hbv,if_pos (by omega)]
   repeat' (first|((with_reducible apply oq_id);first|((with_reducible apply oq_gtrT);exact rfl;exact rfl;omega)|(apply oq_fn;exact rfl;first|exact trivial|(and_intros<;>omega)|omega|skip))|((with_reducible apply tl_id);first|(with_reducible apply tl_nil)|((with_reducible apply u_q);(iterate 4 exact rfl)))|((with_reducible apply t_id);first|(with_reducible apply t_seq)|(apply t_region;kernel_rfl)|((with_reducible apply t_condT);exact rfl)|(with_reducible apply t_ret))|with_reducible apply q_thenN|with_reducible apply q_thenR|(with_reducible apply end_ret)|exact rvs_nil|(with_reducible apply rvs_cons)|((with_reducible apply rv_tmp);exact rfl))
   all_goals rfl
 rw [if_neg (by omega)] at hbv
 refine t_cut (ι:=Unit) (fun _=>[(0,.slice A n c),(1,.int .i64 40),(2,.func (.func 94) #[] #[]),(3,.int .i64 40)]) (fun _=>([]:Hp)) (fun _=>True) ?_ ?_
 · repeat' (first|((with_reducible apply oq_id);first|(apply oq_fn;exact rfl;first|exact trivial|(and_intros<;>omega)|omega|skip))|((with_reducible apply tl_id);first|(with_reducible apply tl_nil)|((with_reducible apply u_q);(iterate 4 exact rfl)))|((with_reducible apply t_id);first|(apply t_region;kernel_rfl)))
   all_goals exact ⟨by trivial,(),trivial,by (repeat' (first|exact FrSub.nil|(apply FrSub.cons;exact rfl))),by (repeat' (first|exact HpSub.refl _))⟩
 rintro ⟨⟩ -
 try dsimp only
 refine t_cut (ι:=Unit) (fun _=>[(0,.slice A n c),(2,.func (.func 94) #[] #[]),(3,.int .i64 40)]) (fun _=>([]:Hp)) (fun _=>True) ?_ ?_
 · repeat' (first|((with_reducible apply oq_id);first|((with_reducible apply oq_gtrF);exact rfl;exact rfl;omega)|(apply oq_fn;exact rfl;first|exact trivial|(and_intros<;>omega)|omega|skip))|((with_reducible apply tl_id);first|(with_reducible apply tl_nil)|((with_reducible apply u_q);(iterate 4 exact rfl)))|((with_reducible apply t_id);first|(with_reducible apply t_seq)|(apply t_region;kernel_rfl)|((with_reducible apply t_condF);exact rfl)|(with_reducible apply t_skip))|with_reducible apply q_thenN)
   all_goals exact ⟨by trivial,(),trivial,by (repeat' (first|exact FrSub.nil|(apply FrSub.cons;exact rfl))),by (repeat' (first|exact HpSub.refl _))⟩
 rintro ⟨⟩ -
 try dsimp only
 (with_reducible apply t_seq)
 refine t_cut (ι:=Unit) (fun _=>[(2,.func (.func 94) #[] #[]),(3,.int .i64 40),(15,.slice A n c),(16,.int .i64 ((n:Nat):Int)),(17,.int .i64 ((0:Nat):Int))]) (fun _=>([]:Hp)) (fun _=>True) ?_ ?_
 · repeat' (first|((with_reducible apply oq_id);first|(apply oq_fn;exact rfl;first|exact trivial|(and_intros<;>omega)|omega|skip))|((with_reducible apply tl_id);first|(with_reducible apply tl_nil)|((with_reducible apply u_q);(iterate 4 exact rfl)))|((with_reducible apply t_id);first|(apply t_region;kernel_rfl)))
   all_goals exact ⟨by trivial,(),trivial,by (repeat' (first|exact FrSub.nil|(apply FrSub.cons;exact rfl))),by (repeat' (first|exact HpSub.refl _))⟩
 rintro ⟨⟩ -
 try dsimp only
 (with_reducible apply t_block)
 apply t_loopP (ι:=Nat) [2,3,15,16] (fun i=>[(17,.int .i64 ((i:Nat):Int))]) (fun _=>[]) (fun i=>i≤n∧∀ j q,j<i→l[j]?=some q→q.okB=true) (fun i=>n-i) (0)
 (repeat (first|exact KeepF.nil|(apply KeepF.cons;exact rfl)|apply KeepF.skip))
 (repeat first|exact FrSub.nil|(apply FrSub.cons;exact rfl))
 (try simp only [List.cons_append,List.nil_append])
 (repeat' (first|exact HpSub.refl _))
 · exact ⟨Nat.zero_le _,fun j q h=>absurd h (by omega)⟩
 rintro i ⟨hi,hg⟩
 try simp only [List.cons_append,List.nil_append]
 by_cases hlt:i<n
 rotate_left
 · obtain rfl:bv=0:=by
     rw [← hbv,if_pos (List.all_eq_true.2 fun q hq=>by
       obtain ⟨j,hj⟩:=List.getElem?_of_mem hq
       exact hg j q (by have:=(List.getElem?_eq_some_iff.1 hj).1;omega) hj)]
   repeat' (first|((with_reducible apply oq_id);first|((with_reducible apply oq_lssF);exact rfl;exact rfl;omega)|(apply oq_fn;exact rfl;first|exact trivial|(and_intros<;>omega)|omega|skip))|((with_reducible apply tl_id);first|(with_reducible apply tl_nil)|((with_reducible apply u_q);(iterate 4 exact rfl)))|((with_reducible apply t_id);first|(with_reducible apply t_seq)|(apply t_region;kernel_rfl)|((with_reducible apply t_condF);exact rfl)|(with_reducible apply t_ret)|(with_reducible apply t_exit))|with_reducible apply q_thenN|with_reducible apply q_thenE|((with_reducible apply q_blockE);exact rfl)|(with_reducible apply end_ret)|exact rvs_nil|(with_reducible apply rvs_cons)|((with_reducible apply rv_tmp);exact rfl))
   all_goals rfl
 obtain ⟨B,O,x,rfl,hx,c0,c1,c2,c3⟩:=ld_row hr hlt
 have HC:=fun w1=>check1_calls x w1
 obtain ⟨bx,hbx⟩:∃ b,x.okB=b:=⟨_,rfl⟩
 rw [hbx] at HC
 cases bx
 · obtain rfl:bv=40:=by rw [← hbv,if_neg (fun h=>by rw [List.all_eq_true.1 h x (List.mem_of_getElem? hx)] at hbx;cases hbx)]
   repeat' (first|((with_reducible apply oq_id);first|(focus ((with_reducible apply oq_indexAddrN);(iterate 4 exact rfl);omega))|((with_reducible apply oq_lssT);exact rfl;exact rfl;omega)|(apply oq_fn;exact rfl;first|exact trivial|(and_intros<;>omega)|omega|skip)|((with_reducible apply oq_loadAgg);exact rfl;exact rfl)|((with_reducible apply oq_call (hc:=Try.call94));exact rfl;exact rfl;exact fun D w1 hw1=>HC w1))|((with_reducible apply tl_id);first|(with_reducible apply tl_nil)|((with_reducible apply u_q);(iterate 4 exact rfl))|((with_reducible apply u_s0);exact rfl;exact rfl)|((with_reducible apply u_s);(iterate 3 exact rfl)))|((with_reducible apply os_id);first|((with_reducible apply os_x);exact rfl)|((with_reducible apply os_storeAgg);(iterate 5 exact rfl)))|((with_reducible apply ox_id);first|((with_reducible apply ox_alloc);exact rfl;intro _))|((with_reducible apply rd_id);first|(apply Rd.own;(repeat first|exact P0|apply P1);exact rfl;done)|(apply Rd.old;(first|(with_reducible assumption)|exact c0|exact c1|exact c2|exact c3|exact c4|exact c5|exact c6|exact c7|exact c8|exact d0|exact d1|exact d2|exact d3|exact d4|exact d5);first|exact List.not_mem_nil|exact m0|exact m1|exact m2|exact m3|exact m4|exact m5|exact m6|exact m7|exact m8|exact m9))|((with_reducible apply t_id);first|(with_reducible apply t_seq)|(apply t_region;kernel_rfl)|((with_reducible apply t_condT);exact rfl)|(with_reducible apply t_ret)|(with_reducible apply t_skip)|(with_reducible apply t_block))|with_reducible apply q_thenN|with_reducible apply q_thenR|with_reducible apply q_blockR|exact P0|exact Rdn.zero|apply Rdn.succ|((with_reducible apply Norm.nil);exact rfl)|((with_reducible apply Norm.cons);exact rfl)|(with_reducible apply end_ret)|exact rvs_nil|(with_reducible apply rvs_cons)|((with_reducible apply rv_tmp);exact rfl)|exact Nat.le_of_ble_eq_true rfl)
   all_goals rfl
 · repeat' (first|((with_reducible apply oq_id);first|(focus ((with_reducible apply oq_indexAddrN);(iterate 4 exact rfl);omega))|(focus ((with_reducible apply (oq_addE (k:=((i+1:Nat):Int))));exact rfl;exact rfl;omega))|((with_reducible apply oq_lssT);exact rfl;exact rfl;omega)|(apply oq_fn;exact rfl;first|exact trivial|(and_intros<;>omega)|omega|skip)|((with_reducible apply oq_loadAgg);exact rfl;exact rfl)|((with_reducible apply oq_call (hc:=Try.call94));exact rfl;exact rfl;exact fun D w1 hw1=>HC w1))|((with_reducible apply tl_id);first|(with_reducible apply tl_nil)|((with_reducible apply u_q);(iterate 4 exact rfl))|((with_reducible apply u_s0);exact rfl;exact rfl)|((with_reducible apply u_s);(iterate 3 exact rfl)))|((with_reducible apply os_id);first|((with_reducible apply os_x);exact rfl)|((with_reducible apply os_storeAgg);(iterate 5 exact rfl)))|((with_reducible apply ox_id);first|((with_reducible apply ox_alloc);exact rfl;intro _))|((with_reducible apply rd_id);first|(apply Rd.own;(repeat first|exact P0|apply P1);exact rfl;done)|(apply Rd.old;(first|(with_reducible assumption)|exact c0|exact c1|exact c2|exact c3|exact c4|exact c5|exact c6|exact c7|exact c8|exact d0|exact d1|exact d2|exact d3|exact d4|exact d5);first|exact List.not_mem_nil|exact m0|exact m1|exact m2|exact m3|exact m4|exact m5|exact m6|exact m7|exact m8|exact m9))|((with_reducible apply t_id);first|(with_reducible apply t_seq)|(apply t_region;kernel_rfl)|((with_reducible apply t_condT);exact rfl)|((with_reducible apply t_condF);exact rfl)|(with_reducible apply t_skip)|(with_reducible apply t_block))|with_reducible apply q_thenN|with_reducible apply q_blockN|exact P0|exact Rdn.zero|apply Rdn.succ|((with_reducible apply Norm.nil);exact rfl)|((with_reducible apply Norm.cons);exact rfl)|exact Nat.le_of_ble_eq_true rfl)
   all_goals (refine ⟨i+1,⟨by omega,fun j u hj hu=>?_⟩,by omega,?_,?_⟩<;>first|(rcases (show j<i∨j=i by omega) with k|rfl;exact hg j u k hu;(rw [hx] at hu;obtain rfl:=Option.some.inj hu;exact hbx))|(repeat' (first|exact FrSub.nil|(apply FrSub.cons;exact rfl)|exact HpSub.refl _|apply HpSub.skipX)))
theorem checkLoads_calls (A:Option Addr) (n c:Nat) (l:List Ld) (hn:n≤1000000000) (w:World) (hr:RdS w 4 A n (l.map ldCells)):Calls Try.prog 39 #[.slice A n c] w fun e w'=>e=.returned (.int .i64 (chkE l))∧Ext w w':=by
 refine enterQ (c:=cx w 5) Try.func39 rfl rfl rfl rfl ?_
 repeat' (first|((with_reducible apply oq_id);first|(apply oq_fn;exact rfl;first|exact trivial|(and_intros<;>omega)|omega|skip)|((with_reducible apply oq_call (hc:=Try.call93));exact rfl;exact rfl;exact fun D w1 hw1=>checked_calls A n c l hn w1 (hr.ext hw1.ext.ext)))|((with_reducible apply tl_id);first|(with_reducible apply tl_nil)|((with_reducible apply u_q);(iterate 4 exact rfl)))|((with_reducible apply t_id);first|(with_reducible apply t_seq)|(apply t_region;kernel_rfl)|(with_reducible apply t_ret))|with_reducible apply q_thenN|(with_reducible apply end_ret)|exact rvs_nil|(with_reducible apply rvs_cons)|((with_reducible apply rv_tmp);exact rfl))
 all_goals rfl
theorem sumI_take {f:Ld→Int} {l:List Ld} {k:Nat} {x:Ld} (h:l[k]?=some x):((l.take (k+1)).map f).sum=((l.take k).map f).sum+f x:=by
 rw [List.take_add_one,h,List.map_append,List.sum_append]
 show _+(f x+0)=_
 omega
theorem sumI_bd {f:Ld→Int} {B:Int} {l:List Ld} (h:∀ x∈l,-B≤f x∧f x≤B):∀ k:Nat,k≤l.length→-((k:Int)*B)≤((l.take k).map f).sum∧((l.take k).map f).sum≤(k:Int)*B
 | 0,_=>by simp
 | k+1,hk=>by
   obtain ⟨x,hx⟩:∃ x,l[k]?=some x:=⟨_,List.getElem?_eq_getElem (by omega)⟩
   have ih:=sumI_bd h k (by omega)
   have hb:=h x (List.mem_of_getElem? hx)
   rw [sumI_take hx]
   have e:((k+1:Nat):Int)*B=(k:Int)*B+B:=by rw [Int.natCast_add,Int.add_mul];simp
   omega
theorem sumI_small {f:Ld→Int} {l:List Ld} (h:∀ x∈l,-21474836480000≤f x∧f x≤21474836480000) (hl:l.length≤40) (k:Nat) (hk:k≤l.length) : -900000000000000≤((l.take k).map f).sum∧((l.take k).map f).sum≤900000000000000:=by
 have:=sumI_bd h k hk
 omega
theorem added_calls (A:Option Addr) (n c:Nat) (l:List Ld) (hn:n≤40) (kf:Nat) (f g:Ld→Int) (hcf:∀ (a:Array Value) (w:World),(callFunc kf a).run Try.prog w=.ok (.enter kf a) w) (HF:∀ x∈l,∀ w1:World,Calls Try.prog kf #[.agg #[.int .i64 x.al,.int .i64 x.ah,.int .i64 x.wl,.int .i64 x.wh]] w1 fun e w'=>e=.returned (.agg #[.int .i64 (f x),.int .i64 (g x)])∧Ext w1 w')
   (hf:∀ x∈l,-21474836480000≤f x∧f x≤21474836480000) (hg:∀ x∈l,-21474836480000≤g x∧g x≤21474836480000) (w:World) (hr:RdS w 4 A n (l.map ldCells)):Calls Try.prog 98 #[.slice A n c,.func (.func kf) #[] #[]] w fun e w'=>e=.returned (.agg #[.int .i64 (l.map f).sum,.int .i64 (l.map g).sum])∧Ext w w':=by
 have hl:l.length=n:=by have:=hr.len;rwa [List.length_map] at this
 refine enterQ (c:=cx w 32) Try.func98 rfl rfl rfl rfl ?_
 refine t_cut (ι:=Nat) (fun b4=>[(0,.slice A n c),(1,.func (.func kf) #[] #[]),(4,.pointer (some ⟨b4,0,none⟩))]) (fun b4=>[(b4,[.int .i64 0,.int .i64 0],some (39,2,1))]) (fun _=>True) ?_ ?_
 · repeat' (first|((with_reducible apply tl_id);first|(with_reducible apply tl_nil)|((with_reducible apply u_s);(iterate 3 exact rfl)))|((with_reducible apply os_id);first|((with_reducible apply os_x);exact rfl))|((with_reducible apply ox_id);first|((with_reducible apply ox_alloc);exact rfl;intro _))|((with_reducible apply t_id);first|(apply t_region;kernel_rfl)))
   all_goals exact ⟨by trivial,_,trivial,by (repeat' (first|exact FrSub.nil|(apply FrSub.cons;exact rfl))),by (repeat' (first|exact HpSub.refl _))⟩
 rintro b4 -
 try dsimp only
 refine t_cut (ι:=Nat) (fun b5=>[(0,.slice A n c),(1,.func (.func kf) #[] #[]),(4,.pointer (some ⟨b4,0,none⟩)),(5,.pointer (some ⟨b5,0,none⟩))]) (fun b5=>[(b4,[.int .i64 0,.int .i64 0],some (39,2,1)),(b5,[.int .i64 ((l.take (0)).map f).sum,.int .i64 ((l.take (0)).map g).sum],some (39,2,1))]) (fun _=>True) ?_ ?_
 · repeat' (first|((with_reducible apply tl_id);first|(with_reducible apply tl_nil)|((with_reducible apply u_s);(iterate 3 exact rfl)))|((with_reducible apply os_id);first|((with_reducible apply os_x);exact rfl))|((with_reducible apply ox_id);first|((with_reducible apply ox_alloc);exact rfl;intro _))|((with_reducible apply t_id);first|(apply t_region;kernel_rfl)))
   all_goals exact ⟨by trivial,_,trivial,by (repeat' (first|exact FrSub.nil|(apply FrSub.cons;exact rfl))),by (repeat' (first|exact HpSub.refl _|(apply HpSub.consE;(repeat first|exact P0|apply P1);first|exact rfl|(simp;done))))⟩
 rintro b5 -
 try dsimp only
 (with_reducible apply t_seq)
 refine t_cut (ι:=Unit) (fun _=>[(1,.func (.func kf) #[] #[]),(4,.pointer (some ⟨b4,0,none⟩)),(5,.pointer (some ⟨b5,0,none⟩)),(9,.slice A n c),(10,.int .i64 ((n:Nat):Int)),(11,.int .i64 ((0:Nat):Int))]) (fun _=>[(b4,[.int .i64 0,.int .i64 0],some (39,2,1)),(b5,[.int .i64 ((l.take (0)).map f).sum,.int .i64 ((l.take (0)).map g).sum],some (39,2,1))]) (fun _=>True) ?_ ?_
 · repeat' (first|((with_reducible apply oq_id);first|(apply oq_fn;exact rfl;first|exact trivial|(and_intros<;>omega)|omega|skip))|((with_reducible apply tl_id);first|(with_reducible apply tl_nil)|((with_reducible apply u_q);(iterate 4 exact rfl)))|((with_reducible apply t_id);first|(apply t_region;kernel_rfl)))
   all_goals exact ⟨by trivial,(),trivial,by (repeat' (first|exact FrSub.nil|(apply FrSub.cons;exact rfl))),by (repeat' (first|exact HpSub.refl _))⟩
 rintro ⟨⟩ -
 try dsimp only
 (with_reducible apply t_block)
 apply t_loopP (ι:=Nat) [1,4,5,9,10,31] (fun i=>[(11,.int .i64 ((i:Nat):Int))]) (fun i=>[(b4,[.int .i64 0,.int .i64 0],some (39,2,1)),(b5,[.int .i64 ((l.take (i)).map f).sum,.int .i64 ((l.take (i)).map g).sum],some (39,2,1))]) (fun i=>i≤n) (fun i=>n-i) (0)
 (repeat (first|exact KeepF.nil|(apply KeepF.cons;exact rfl)|apply KeepF.skip))
 (repeat first|exact FrSub.nil|(apply FrSub.cons;exact rfl))
 (try simp only [List.cons_append,List.nil_append])
 (repeat' (first|exact HpSub.refl _))
 · exact Nat.zero_le _
 rintro i hi
 try simp only [List.cons_append,List.nil_append]
 by_cases hlt:i<n
 rotate_left
 · obtain rfl:i=n:=by omega
   rw [← hl,List.take_length]
   rw [← hl] at hr
   repeat' (first|((with_reducible apply oq_id);first|((with_reducible apply oq_lssF);exact rfl;exact rfl;omega)|((with_reducible apply oq_loadAgg);exact rfl;exact rfl))|((with_reducible apply tl_id);first|(with_reducible apply tl_nil)|((with_reducible apply u_q);(iterate 4 exact rfl))|((with_reducible apply u_s0);exact rfl;exact rfl))|((with_reducible apply os_id);first|((with_reducible apply os_storeAgg);(iterate 5 exact rfl)))|((with_reducible apply rd_id);first|(apply Rd.own;(repeat first|exact P0|apply P1);exact rfl;done))|((with_reducible apply t_id);first|(with_reducible apply t_seq)|(apply t_region;kernel_rfl)|((with_reducible apply t_condF);exact rfl)|(with_reducible apply t_ret)|(with_reducible apply t_exit))|with_reducible apply q_thenN|with_reducible apply q_thenE|((with_reducible apply q_blockE);exact rfl)|exact P0|exact Rdn.zero|apply Rdn.succ|((with_reducible apply Norm.nil);exact rfl)|((with_reducible apply Norm.cons);exact rfl)|(with_reducible apply end_ret)|exact rvs_nil|(with_reducible apply rvs_cons)|((with_reducible apply rv_cellAgg);exact rfl;exact rfl)|exact Nat.le_of_ble_eq_true rfl)
   all_goals rfl
 obtain ⟨B,O,x,rfl,hx,c0,c1,c2,c3⟩:=ld_row hr hlt
 have HFx:=HF x (List.mem_of_getElem? hx)
 have hs1:=sumI_small hf (by omega) (i+1) (by omega)
 have hs2:=sumI_small hg (by omega) (i+1) (by omega)
 have e1:=sumI_take (f:=f) hx
 have e2:=sumI_take (f:=g) hx
 have hs3:=sumI_small hf (by omega) i (by omega)
 have hs4:=sumI_small hg (by omega) i (by omega)
 obtain ⟨S1,hS1⟩:∃ s,((l.take (i+1)).map f).sum=s:=⟨_,rfl⟩
 obtain ⟨S2,hS2⟩:∃ s,((l.take (i+1)).map g).sum=s:=⟨_,rfl⟩
 obtain ⟨S3,hS3⟩:∃ s,((l.take i).map f).sum=s:=⟨_,rfl⟩
 obtain ⟨S4,hS4⟩:∃ s,((l.take i).map g).sum=s:=⟨_,rfl⟩
 rw [hS1] at hs1 e1
 rw [hS2] at hs2 e2
 rw [hS3] at hs3 e1
 rw [hS4] at hs4 e2
 simp only [hS3,hS4]
 repeat' (first|((with_reducible apply oq_id);first|(focus ((with_reducible apply oq_indexAddrN);(iterate 4 exact rfl);omega))|(focus ((with_reducible apply (oq_addE (k:=((i+1:Nat):Int))));exact rfl;exact rfl;omega))|(focus ((with_reducible apply (oq_addE (k:=S1)));exact rfl;exact rfl;omega))|(focus ((with_reducible apply (oq_addE (k:=S2)));exact rfl;exact rfl;omega))|((with_reducible apply oq_lssT);exact rfl;exact rfl;omega)|(apply oq_fn;exact rfl;first|exact trivial|(and_intros<;>omega)|omega|skip)|((with_reducible apply oq_load);exact rfl;exact rfl)|((with_reducible apply oq_loadAgg);exact rfl;exact rfl)|((with_reducible apply oq_call (k:=kf) (hc:=hcf));exact rfl;exact rfl;exact fun D w1 hw1=>HFx w1))|((with_reducible apply tl_id);first|(with_reducible apply tl_nil)|((with_reducible apply u_q);(iterate 4 exact rfl))|((with_reducible apply u_s0);exact rfl;exact rfl)|((with_reducible apply u_s);(iterate 3 exact rfl)))|((with_reducible apply os_id);first|((with_reducible apply os_x);exact rfl)|((with_reducible apply os_store);(iterate 4 exact rfl))|((with_reducible apply os_storeAgg);(iterate 5 exact rfl)))|((with_reducible apply ox_id);first|((with_reducible apply ox_alloc);exact rfl;intro _))|((with_reducible apply rd_id);first|(apply Rd.own;(repeat first|exact P0|apply P1);exact rfl;done)|(apply Rd.old;(first|(with_reducible assumption)|exact c0|exact c1|exact c2|exact c3|exact c4|exact c5|exact c6|exact c7|exact c8|exact d0|exact d1|exact d2|exact d3|exact d4|exact d5);first|exact List.not_mem_nil|exact m0|exact m1|exact m2|exact m3|exact m4|exact m5|exact m6|exact m7|exact m8|exact m9))|((with_reducible apply t_id);first|(with_reducible apply t_seq)|(apply t_region;kernel_rfl)|((with_reducible apply t_condT);exact rfl)|(with_reducible apply t_skip)|(with_reducible apply t_block))|with_reducible apply q_thenN|with_reducible apply q_blockN|exact P0|(with_reducible apply P1)|exact Rdn.zero|apply Rdn.succ|((with_reducible apply Norm.nil);exact rfl)|((with_reducible apply Norm.cons);exact rfl)|exact Nat.le_of_ble_eq_true rfl)
 all_goals (refine ⟨i+1,by omega,by omega,?_,?_⟩<;>(try simp only [hS1,hS2])<;>(repeat' (first|exact FrSub.nil|(apply FrSub.cons;exact rfl)|exact HpSub.refl _|(apply HpSub.consE;(repeat first|exact P0|apply P1);first|exact rfl|(simp;done))|apply HpSub.skipX)))
def mkmin (a b c d:Int):Nat→Int
 | 0=>a
 | 1=>a
 | 2=>min a b
 | 3=>min (min a b) c
 | _=>min (min (min a b) c) d
theorem min4_calls (g cp:Nat) (a b c d:Int) (w:World) (c0:w.cell? ⟨g,0,none⟩=some (.int .i64 a)) (c1:w.cell? ⟨g,1,none⟩=some (.int .i64 b)) (c2:w.cell? ⟨g,2,none⟩=some (.int .i64 c)) (c3:w.cell? ⟨g,3,none⟩=some (.int .i64 d)):Calls Try.prog 131 #[.slice (some ⟨g,0,none⟩) 4 cp] w fun e w'=>e=.returned (.int .i64 (min (min (min a b) c) d))∧Ext w w':=by
 refine enterQ (c:=cx w 25) Try.func131 rfl rfl rfl rfl ?_
 refine t_cut (ι:=Unit) (fun _=>[(0,.slice (some ⟨g,0,none⟩) 4 cp)]) (fun _=>([]:Hp)) (fun _=>True) ?_ ?_
 · repeat' (first|((with_reducible apply oq_id);first|(apply oq_fn;exact rfl;first|exact trivial|(and_intros<;>omega)|omega|skip))|((with_reducible apply tl_id);first|(with_reducible apply tl_nil)|((with_reducible apply u_q);(iterate 4 exact rfl)))|((with_reducible apply t_id);first|(apply t_region;kernel_rfl)))
   all_goals exact ⟨by trivial,(),trivial,by (repeat' (first|exact FrSub.nil|(apply FrSub.cons;exact rfl))),by (repeat' (first|exact HpSub.refl _))⟩
 rintro ⟨⟩ -
 try dsimp only
 refine t_cut (ι:=Unit) (fun _=>[(0,.slice (some ⟨g,0,none⟩) 4 cp)]) (fun _=>([]:Hp)) (fun _=>True) ?_ ?_
 · repeat' (first|((with_reducible apply oq_id);first|((with_reducible apply oq_lssF);exact rfl;exact rfl;omega)|(apply oq_fn;exact rfl;first|exact trivial|(and_intros<;>omega)|omega|skip))|((with_reducible apply tl_id);first|(with_reducible apply tl_nil)|((with_reducible apply u_q);(iterate 4 exact rfl)))|((with_reducible apply t_id);first|(with_reducible apply t_seq)|(apply t_region;kernel_rfl)|((with_reducible apply t_condF);exact rfl)|(with_reducible apply t_skip))|with_reducible apply q_thenN)
   all_goals exact ⟨by trivial,(),trivial,by (repeat' (first|exact FrSub.nil|(apply FrSub.cons;exact rfl))),by (repeat' (first|exact HpSub.refl _))⟩
 rintro ⟨⟩ -
 try dsimp only
 refine t_cut (ι:=Unit) (fun _=>[(0,.slice (some ⟨g,0,none⟩) 4 cp),(3,.int .i64 (mkmin a b c d 1))]) (fun _=>([]:Hp)) (fun _=>True) ?_ ?_
 · repeat' (first|((with_reducible apply oq_id);first|(focus ((with_reducible apply (oq_indexAddrN (i:=0)));(iterate 4 exact rfl);omega))|(apply oq_fn;exact rfl;first|exact trivial|(and_intros<;>omega)|omega|skip)|((with_reducible apply oq_load);exact rfl;exact rfl))|((with_reducible apply tl_id);first|(with_reducible apply tl_nil)|((with_reducible apply u_q);(iterate 4 exact rfl)))|((with_reducible apply rd_id);first|(apply Rd.old;(first|(with_reducible assumption)|exact c0|exact c1|exact c2|exact c3|exact c4|exact c5|exact c6|exact c7|exact c8|exact d0|exact d1|exact d2|exact d3|exact d4|exact d5);first|exact List.not_mem_nil|exact m0|exact m1|exact m2|exact m3|exact m4|exact m5|exact m6|exact m7|exact m8|exact m9))|((with_reducible apply t_id);first|(apply t_region;kernel_rfl)))
   all_goals exact ⟨by trivial,(),trivial,by (repeat' (first|exact FrSub.nil|(apply FrSub.cons;exact rfl))),by (repeat' (first|exact HpSub.refl _))⟩
 rintro ⟨⟩ -
 try dsimp only
 (with_reducible apply t_seq)
 refine t_cut (ι:=Unit) (fun _=>[(0,.slice (some ⟨g,0,none⟩) 4 cp),(3,.int .i64 (mkmin a b c d 1)),(4,.int .i64 ((1:Nat):Int))]) (fun _=>([]:Hp)) (fun _=>True) ?_ ?_
 · repeat' (first|((with_reducible apply oq_id);first|(apply oq_fn;exact rfl;first|exact trivial|(and_intros<;>omega)|omega|skip))|((with_reducible apply tl_id);first|(with_reducible apply tl_nil)|((with_reducible apply u_q);(iterate 4 exact rfl)))|((with_reducible apply t_id);first|(apply t_region;kernel_rfl)))
   all_goals exact ⟨by trivial,(),trivial,by (repeat' (first|exact FrSub.nil|(apply FrSub.cons;exact rfl))),by (repeat' (first|exact HpSub.refl _))⟩
 rintro ⟨⟩ -
 try dsimp only
 (with_reducible apply t_block)
 apply t_loopP (ι:=Nat) [0] (fun i=>[(4,.int .i64 ((i:Nat):Int)),(3,.int .i64 (mkmin a b c d i))]) (fun _=>[]) (fun i=>1≤i∧i≤4) (fun i=>4-i) (1)
 (repeat (first|exact KeepF.nil|(apply KeepF.cons;exact rfl)|apply KeepF.skip))
 (repeat first|exact FrSub.nil|(apply FrSub.cons;exact rfl))
 (try simp only [List.cons_append,List.nil_append])
 (repeat' (first|exact HpSub.refl _))
 · exact ⟨by omega,by omega⟩
 rintro i ⟨hi1,hi2⟩
 try simp only [List.cons_append,List.nil_append]
 rcases (show i=4∨i=1∨i=2∨i=3 by omega) with rfl|rfl|rfl|rfl
 · repeat' (first|((with_reducible apply oq_id);first|((with_reducible apply oq_lssF);exact rfl;exact rfl;omega)|(apply oq_fn;exact rfl;first|exact trivial|(and_intros<;>omega)|omega|skip))|((with_reducible apply tl_id);first|(with_reducible apply tl_nil)|((with_reducible apply u_q);(iterate 4 exact rfl)))|((with_reducible apply t_id);first|(with_reducible apply t_seq)|(apply t_region;kernel_rfl)|((with_reducible apply t_condF);exact rfl)|(with_reducible apply t_ret)|(with_reducible apply t_exit))|with_reducible apply q_thenN|with_reducible apply q_thenE|((with_reducible apply q_blockE);exact rfl)|(with_reducible apply end_ret)|exact rvs_nil|(with_reducible apply rvs_cons)|((with_reducible apply rv_tmp);exact rfl))
   all_goals rfl
 · repeat' (first|((with_reducible apply oq_id);first|(focus ((with_reducible apply oq_indexAddrN (i:=1));(iterate 4 exact rfl);omega))|(focus ((with_reducible apply (oq_addE (k:=((2:Nat):Int))));exact rfl;exact rfl;omega))|((with_reducible apply oq_lssT);exact rfl;exact rfl;omega)|(apply oq_fn;exact rfl;first|exact trivial|(and_intros<;>omega)|omega|skip)|((with_reducible apply oq_load);exact rfl;exact rfl))|((with_reducible apply tl_id);first|(with_reducible apply tl_nil)|((with_reducible apply u_q);(iterate 4 exact rfl)))|((with_reducible apply rd_id);first|(apply Rd.old;(first|(with_reducible assumption)|exact c0|exact c1|exact c2|exact c3|exact c4|exact c5|exact c6|exact c7|exact c8|exact d0|exact d1|exact d2|exact d3|exact d4|exact d5);first|exact List.not_mem_nil|exact m0|exact m1|exact m2|exact m3|exact m4|exact m5|exact m6|exact m7|exact m8|exact m9))|((with_reducible apply t_id);first|(with_reducible apply t_seq)|(apply t_region;kernel_rfl)|((with_reducible apply t_condT);exact rfl)|(with_reducible apply t_skip)|(with_reducible apply t_block))|with_reducible apply q_thenN|with_reducible apply q_blockN)
   all_goals (refine ⟨2,by omega,by omega,?_,?_⟩<;>(repeat' (first|exact FrSub.nil|(apply FrSub.cons;exact rfl)|exact HpSub.refl _)))
 · repeat' (first|((with_reducible apply oq_id);first|(focus ((with_reducible apply oq_indexAddrN (i:=2));(iterate 4 exact rfl);omega))|(focus ((with_reducible apply (oq_addE (k:=((3:Nat):Int))));exact rfl;exact rfl;omega))|((with_reducible apply oq_lssT);exact rfl;exact rfl;omega)|(apply oq_fn;exact rfl;first|exact trivial|(and_intros<;>omega)|omega|skip)|((with_reducible apply oq_load);exact rfl;exact rfl))|((with_reducible apply tl_id);first|(with_reducible apply tl_nil)|((with_reducible apply u_q);(iterate 4 exact rfl)))|((with_reducible apply rd_id);first|(apply Rd.old;(first|(with_reducible assumption)|exact c0|exact c1|exact c2|exact c3|exact c4|exact c5|exact c6|exact c7|exact c8|exact d0|exact d1|exact d2|exact d3|exact d4|exact d5);first|exact List.not_mem_nil|exact m0|exact m1|exact m2|exact m3|exact m4|exact m5|exact m6|exact m7|exact m8|exact m9))|((with_reducible apply t_id);first|(with_reducible apply t_seq)|(apply t_region;kernel_rfl)|((with_reducible apply t_condT);exact rfl)|(with_reducible apply t_skip)|(with_reducible apply t_block))|with_reducible apply q_thenN|with_reducible apply q_blockN)
   all_goals (refine ⟨3,by omega,by omega,?_,?_⟩<;>(repeat' (first|exact FrSub.nil|(apply FrSub.cons;exact rfl)|exact HpSub.refl _)))
 · repeat' (first|((with_reducible apply oq_id);first|(focus ((with_reducible apply oq_indexAddrN (i:=3));(iterate 4 exact rfl);omega))|(focus ((with_reducible apply (oq_addE (k:=((4:Nat):Int))));exact rfl;exact rfl;omega))|((with_reducible apply oq_lssT);exact rfl;exact rfl;omega)|(apply oq_fn;exact rfl;first|exact trivial|(and_intros<;>omega)|omega|skip)|((with_reducible apply oq_load);exact rfl;exact rfl))|((with_reducible apply tl_id);first|(with_reducible apply tl_nil)|((with_reducible apply u_q);(iterate 4 exact rfl)))|((with_reducible apply rd_id);first|(apply Rd.old;(first|(with_reducible assumption)|exact c0|exact c1|exact c2|exact c3|exact c4|exact c5|exact c6|exact c7|exact c8|exact d0|exact d1|exact d2|exact d3|exact d4|exact d5);first|exact List.not_mem_nil|exact m0|exact m1|exact m2|exact m3|exact m4|exact m5|exact m6|exact m7|exact m8|exact m9))|((with_reducible apply t_id);first|(with_reducible apply t_seq)|(apply t_region;kernel_rfl)|((with_reducible apply t_condT);exact rfl)|(with_reducible apply t_skip)|(with_reducible apply t_block))|with_reducible apply q_thenN|with_reducible apply q_blockN)
   all_goals (refine ⟨4,by omega,by omega,?_,?_⟩<;>(repeat' (first|exact FrSub.nil|(apply FrSub.cons;exact rfl)|exact HpSub.refl _)))
def mkmax (a b c d:Int):Nat→Int
 | 0=>a
 | 1=>a
 | 2=>max a b
 | 3=>max (max a b) c
 | _=>max (max (max a b) c) d
theorem max4_calls (g cp:Nat) (a b c d:Int) (w:World) (c0:w.cell? ⟨g,0,none⟩=some (.int .i64 a)) (c1:w.cell? ⟨g,1,none⟩=some (.int .i64 b)) (c2:w.cell? ⟨g,2,none⟩=some (.int .i64 c)) (c3:w.cell? ⟨g,3,none⟩=some (.int .i64 d)):Calls Try.prog 132 #[.slice (some ⟨g,0,none⟩) 4 cp] w fun e w'=>e=.returned (.int .i64 (max (max (max a b) c) d))∧Ext w w':=by
 refine enterQ (c:=cx w 25) Try.func132 rfl rfl rfl rfl ?_
 refine t_cut (ι:=Unit) (fun _=>[(0,.slice (some ⟨g,0,none⟩) 4 cp)]) (fun _=>([]:Hp)) (fun _=>True) ?_ ?_
 · repeat' (first|((with_reducible apply oq_id);first|(apply oq_fn;exact rfl;first|exact trivial|(and_intros<;>omega)|omega|skip))|((with_reducible apply tl_id);first|(with_reducible apply tl_nil)|((with_reducible apply u_q);(iterate 4 exact rfl)))|((with_reducible apply t_id);first|(apply t_region;kernel_rfl)))
   all_goals exact ⟨by trivial,(),trivial,by (repeat' (first|exact FrSub.nil|(apply FrSub.cons;exact rfl))),by (repeat' (first|exact HpSub.refl _))⟩
 rintro ⟨⟩ -
 try dsimp only
 refine t_cut (ι:=Unit) (fun _=>[(0,.slice (some ⟨g,0,none⟩) 4 cp)]) (fun _=>([]:Hp)) (fun _=>True) ?_ ?_
 · repeat' (first|((with_reducible apply oq_id);first|((with_reducible apply oq_lssF);exact rfl;exact rfl;omega)|(apply oq_fn;exact rfl;first|exact trivial|(and_intros<;>omega)|omega|skip))|((with_reducible apply tl_id);first|(with_reducible apply tl_nil)|((with_reducible apply u_q);(iterate 4 exact rfl)))|((with_reducible apply t_id);first|(with_reducible apply t_seq)|(apply t_region;kernel_rfl)|((with_reducible apply t_condF);exact rfl)|(with_reducible apply t_skip))|with_reducible apply q_thenN)
   all_goals exact ⟨by trivial,(),trivial,by (repeat' (first|exact FrSub.nil|(apply FrSub.cons;exact rfl))),by (repeat' (first|exact HpSub.refl _))⟩
 rintro ⟨⟩ -
 try dsimp only
 refine t_cut (ι:=Unit) (fun _=>[(0,.slice (some ⟨g,0,none⟩) 4 cp),(3,.int .i64 (mkmax a b c d 1))]) (fun _=>([]:Hp)) (fun _=>True) ?_ ?_
 · repeat' (first|((with_reducible apply oq_id);first|(focus ((with_reducible apply (oq_indexAddrN (i:=0)));(iterate 4 exact rfl);omega))|(apply oq_fn;exact rfl;first|exact trivial|(and_intros<;>omega)|omega|skip)|((with_reducible apply oq_load);exact rfl;exact rfl))|((with_reducible apply tl_id);first|(with_reducible apply tl_nil)|((with_reducible apply u_q);(iterate 4 exact rfl)))|((with_reducible apply rd_id);first|(apply Rd.old;(first|(with_reducible assumption)|exact c0|exact c1|exact c2|exact c3|exact c4|exact c5|exact c6|exact c7|exact c8|exact d0|exact d1|exact d2|exact d3|exact d4|exact d5);first|exact List.not_mem_nil|exact m0|exact m1|exact m2|exact m3|exact m4|exact m5|exact m6|exact m7|exact m8|exact m9))|((with_reducible apply t_id);first|(apply t_region;kernel_rfl)))
   all_goals exact ⟨by trivial,(),trivial,by (repeat' (first|exact FrSub.nil|(apply FrSub.cons;exact rfl))),by (repeat' (first|exact HpSub.refl _))⟩
 rintro ⟨⟩ -
 try dsimp only
 (with_reducible apply t_seq)
 refine t_cut (ι:=Unit) (fun _=>[(0,.slice (some ⟨g,0,none⟩) 4 cp),(3,.int .i64 (mkmax a b c d 1)),(4,.int .i64 ((1:Nat):Int))]) (fun _=>([]:Hp)) (fun _=>True) ?_ ?_
 · repeat' (first|((with_reducible apply oq_id);first|(apply oq_fn;exact rfl;first|exact trivial|(and_intros<;>omega)|omega|skip))|((with_reducible apply tl_id);first|(with_reducible apply tl_nil)|((with_reducible apply u_q);(iterate 4 exact rfl)))|((with_reducible apply t_id);first|(apply t_region;kernel_rfl)))
   all_goals exact ⟨by trivial,(),trivial,by (repeat' (first|exact FrSub.nil|(apply FrSub.cons;exact rfl))),by (repeat' (first|exact HpSub.refl _))⟩
 rintro ⟨⟩ -
 try dsimp only
 (with_reducible apply t_block)
 apply t_loopP (ι:=Nat) [0] (fun i=>[(4,.int .i64 ((i:Nat):Int)),(3,.int .i64 (mkmax a b c d i))]) (fun _=>[]) (fun i=>1≤i∧i≤4) (fun i=>4-i) (1)
 (repeat (first|exact KeepF.nil|(apply KeepF.cons;exact rfl)|apply KeepF.skip))
 (repeat first|exact FrSub.nil|(apply FrSub.cons;exact rfl))
 (try simp only [List.cons_append,List.nil_append])
 (repeat' (first|exact HpSub.refl _))
 · exact ⟨by omega,by omega⟩
 rintro i ⟨hi1,hi2⟩
 try simp only [List.cons_append,List.nil_append]
 rcases (show i=4∨i=1∨i=2∨i=3 by omega) with rfl|rfl|rfl|rfl
 · repeat' (first|((with_reducible apply oq_id);first|((with_reducible apply oq_lssF);exact rfl;exact rfl;omega)|(apply oq_fn;exact rfl;first|exact trivial|(and_intros<;>omega)|omega|skip))|((with_reducible apply tl_id);first|(with_reducible apply tl_nil)|((with_reducible apply u_q);(iterate 4 exact rfl)))|((with_reducible apply t_id);first|(with_reducible apply t_seq)|(apply t_region;kernel_rfl)|((with_reducible apply t_condF);exact rfl)|(with_reducible apply t_ret)|(with_reducible apply t_exit))|with_reducible apply q_thenN|with_reducible apply q_thenE|((with_reducible apply q_blockE);exact rfl)|(with_reducible apply end_ret)|exact rvs_nil|(with_reducible apply rvs_cons)|((with_reducible apply rv_tmp);exact rfl))
   all_goals rfl
 · repeat' (first|((with_reducible apply oq_id);first|(focus ((with_reducible apply oq_indexAddrN (i:=1));(iterate 4 exact rfl);omega))|(focus ((with_reducible apply (oq_addE (k:=((2:Nat):Int))));exact rfl;exact rfl;omega))|((with_reducible apply oq_lssT);exact rfl;exact rfl;omega)|(apply oq_fn;exact rfl;first|exact trivial|(and_intros<;>omega)|omega|skip)|((with_reducible apply oq_load);exact rfl;exact rfl))|((with_reducible apply tl_id);first|(with_reducible apply tl_nil)|((with_reducible apply u_q);(iterate 4 exact rfl)))|((with_reducible apply rd_id);first|(apply Rd.old;(first|(with_reducible assumption)|exact c0|exact c1|exact c2|exact c3|exact c4|exact c5|exact c6|exact c7|exact c8|exact d0|exact d1|exact d2|exact d3|exact d4|exact d5);first|exact List.not_mem_nil|exact m0|exact m1|exact m2|exact m3|exact m4|exact m5|exact m6|exact m7|exact m8|exact m9))|((with_reducible apply t_id);first|(with_reducible apply t_seq)|(apply t_region;kernel_rfl)|((with_reducible apply t_condT);exact rfl)|(with_reducible apply t_skip)|(with_reducible apply t_block))|with_reducible apply q_thenN|with_reducible apply q_blockN)
   all_goals (refine ⟨2,by omega,by omega,?_,?_⟩<;>(repeat' (first|exact FrSub.nil|(apply FrSub.cons;exact rfl)|exact HpSub.refl _)))
 · repeat' (first|((with_reducible apply oq_id);first|(focus ((with_reducible apply oq_indexAddrN (i:=2));(iterate 4 exact rfl);omega))|(focus ((with_reducible apply (oq_addE (k:=((3:Nat):Int))));exact rfl;exact rfl;omega))|((with_reducible apply oq_lssT);exact rfl;exact rfl;omega)|(apply oq_fn;exact rfl;first|exact trivial|(and_intros<;>omega)|omega|skip)|((with_reducible apply oq_load);exact rfl;exact rfl))|((with_reducible apply tl_id);first|(with_reducible apply tl_nil)|((with_reducible apply u_q);(iterate 4 exact rfl)))|((with_reducible apply rd_id);first|(apply Rd.old;(first|(with_reducible assumption)|exact c0|exact c1|exact c2|exact c3|exact c4|exact c5|exact c6|exact c7|exact c8|exact d0|exact d1|exact d2|exact d3|exact d4|exact d5);first|exact List.not_mem_nil|exact m0|exact m1|exact m2|exact m3|exact m4|exact m5|exact m6|exact m7|exact m8|exact m9))|((with_reducible apply t_id);first|(with_reducible apply t_seq)|(apply t_region;kernel_rfl)|((with_reducible apply t_condT);exact rfl)|(with_reducible apply t_skip)|(with_reducible apply t_block))|with_reducible apply q_thenN|with_reducible apply q_blockN)
   all_goals (refine ⟨3,by omega,by omega,?_,?_⟩<;>(repeat' (first|exact FrSub.nil|(apply FrSub.cons;exact rfl)|exact HpSub.refl _)))
 · repeat' (first|((with_reducible apply oq_id);first|(focus ((with_reducible apply oq_indexAddrN (i:=3));(iterate 4 exact rfl);omega))|(focus ((with_reducible apply (oq_addE (k:=((4:Nat):Int))));exact rfl;exact rfl;omega))|((with_reducible apply oq_lssT);exact rfl;exact rfl;omega)|(apply oq_fn;exact rfl;first|exact trivial|(and_intros<;>omega)|omega|skip)|((with_reducible apply oq_load);exact rfl;exact rfl))|((with_reducible apply tl_id);first|(with_reducible apply tl_nil)|((with_reducible apply u_q);(iterate 4 exact rfl)))|((with_reducible apply rd_id);first|(apply Rd.old;(first|(with_reducible assumption)|exact c0|exact c1|exact c2|exact c3|exact c4|exact c5|exact c6|exact c7|exact c8|exact d0|exact d1|exact d2|exact d3|exact d4|exact d5);first|exact List.not_mem_nil|exact m0|exact m1|exact m2|exact m3|exact m4|exact m5|exact m6|exact m7|exact m8|exact m9))|((with_reducible apply t_id);first|(with_reducible apply t_seq)|(apply t_region;kernel_rfl)|((with_reducible apply t_condT);exact rfl)|(with_reducible apply t_skip)|(with_reducible apply t_block))|with_reducible apply q_thenN|with_reducible apply q_blockN)
   all_goals (refine ⟨4,by omega,by omega,?_,?_⟩<;>(repeat' (first|exact FrSub.nil|(apply FrSub.cons;exact rfl)|exact HpSub.refl _)))
theorem in_mul {a b:Int} (ha : -20000≤a∧a≤20000) (hb : -1073741824≤b∧b≤1073741824) : -21474836480000≤a*b∧a*b≤21474836480000:=by
 have h1:=Int.mul_nonneg (show 0≤20000-a by omega) (show 0≤1073741824-b by omega)
 have h2:=Int.mul_nonneg (show 0≤20000+a by omega) (show 0≤1073741824+b by omega)
 have h3:=Int.mul_nonneg (show 0≤20000-a by omega) (show 0≤1073741824+b by omega)
 have h4:=Int.mul_nonneg (show 0≤20000+a by omega) (show 0≤1073741824-b by omega)
 have e1:(20000-a)*(1073741824-b)=20000*1073741824-20000*b-1073741824*a+a*b:=by rw [Int.sub_mul,Int.mul_sub,Int.mul_sub,Int.mul_comm a 1073741824];omega
 have e2:(20000+a)*(1073741824+b)=20000*1073741824+20000*b+1073741824*a+a*b:=by rw [Int.add_mul,Int.mul_add,Int.mul_add,Int.mul_comm a 1073741824];omega
 have e3:(20000-a)*(1073741824+b)=20000*1073741824+20000*b-1073741824*a-a*b:=by rw [Int.sub_mul,Int.mul_add,Int.mul_add,Int.mul_comm a 1073741824];omega
 have e4:(20000+a)*(1073741824-b)=20000*1073741824-20000*b+1073741824*a-a*b:=by rw [Int.add_mul,Int.mul_sub,Int.mul_sub,Int.mul_comm a 1073741824];omega
 omega
def tmLo (a b:Int×Int):Int:=min (min (min (a.1*b.1) (a.1*b.2)) (a.2*b.1)) (a.2*b.2)
def tmHi (a b:Int×Int):Int:=max (max (max (a.1*b.1) (a.1*b.2)) (a.2*b.1)) (a.2*b.2)
theorem times_calls (a b:Int×Int) (h1 : -20000≤a.1∧a.1≤20000) (h2 : -20000≤a.2∧a.2≤20000) (h3 : -1073741824≤b.1∧b.1≤1073741824) (h4 : -1073741824≤b.2∧b.2≤1073741824) (w:World):Calls Try.prog 101 #[.agg #[.int .i64 a.1,.int .i64 a.2],.agg #[.int .i64 b.1,.int .i64 b.2]] w fun e w'=>e=.returned (.agg #[.int .i64 (tmLo a b),.int .i64 (tmHi a b)])∧Ext w w':=by
 have k1:=in_mul h1 h3
 have k2:=in_mul h1 h4
 have k3:=in_mul h2 h3
 have k4:=in_mul h2 h4
 unfold tmLo tmHi
 have g1:InR (a.1*b.1):=⟨by omega,by omega⟩
 have g2:InR (a.1*b.2):=⟨by omega,by omega⟩
 have g3:InR (a.2*b.1):=⟨by omega,by omega⟩
 have g4:InR (a.2*b.2):=⟨by omega,by omega⟩
 refine enterQ (c:=cx w 32) Try.func101 rfl rfl rfl rfl ?_
 repeat' (first|((with_reducible apply oq_id);first|((with_reducible apply oq_mul);exact rfl;exact rfl;(first|exact g1|exact g2|exact g3|exact g4))|(apply oq_fn;exact rfl;first|exact trivial|(and_intros<;>omega)|omega|skip)|((with_reducible apply oq_load);exact rfl;exact rfl)|((with_reducible apply oq_call (hc:=Try.call131));exact rfl;exact rfl;exact fun D w1 hw1=>min4_calls _ _ _ _ _ _ w1 (hw1.cellAt (by (repeat first|exact P0|apply P1)) rfl) (hw1.cellAt (by (repeat first|exact P0|apply P1)) rfl) (hw1.cellAt (by (repeat first|exact P0|apply P1)) rfl) (hw1.cellAt (by (repeat first|exact P0|apply P1)) rfl))|((with_reducible apply oq_call (hc:=Try.call132));exact rfl;exact rfl;exact fun D w1 hw1=>max4_calls _ _ _ _ _ _ w1 (hw1.cellAt (by (repeat first|exact P0|apply P1)) rfl) (hw1.cellAt (by (repeat first|exact P0|apply P1)) rfl) (hw1.cellAt (by (repeat first|exact P0|apply P1)) rfl) (hw1.cellAt (by (repeat first|exact P0|apply P1)) rfl))|((with_reducible apply oq_build);(iterate 3 exact rfl)))|((with_reducible apply tl_id);first|(with_reducible apply tl_nil)|((with_reducible apply u_q);(iterate 4 exact rfl))|((with_reducible apply u_s0);exact rfl;exact rfl)|((with_reducible apply u_s);(iterate 3 exact rfl)))|((with_reducible apply os_id);first|((with_reducible apply os_x);exact rfl)|((with_reducible apply os_storeAgg);(iterate 5 exact rfl)))|((with_reducible apply ox_id);first|((with_reducible apply ox_alloc);exact rfl;intro _)|((with_reducible apply ox_boxAgg);exact rfl;intro _)|((with_reducible apply ox_buildSlice1);(iterate 6 exact rfl);intro _))|((with_reducible apply rd_id);first|(apply Rd.own;(repeat first|exact P0|apply P1);exact rfl;done))|((with_reducible apply t_id);first|(with_reducible apply t_seq)|(apply t_region;kernel_rfl)|(with_reducible apply t_ret))|with_reducible apply q_thenN|exact P0|(with_reducible apply P1)|exact Rdn.zero|apply Rdn.succ|((with_reducible apply Norm.nil);exact rfl)|((with_reducible apply Norm.cons);exact rfl)|(with_reducible apply end_ret)|exact rvs_nil|(with_reducible apply rvs_cons)|((with_reducible apply rv_cellAgg);exact rfl;exact rfl)|exact Nat.le_of_ble_eq_true rfl)
 all_goals rfl
theorem bal1_calls (x:Ld) (w:World):Calls Try.prog 99 #[.agg #[.int .i64 x.al,.int .i64 x.ah,.int .i64 x.wl,.int .i64 x.wh]] w fun e w'=>e=.returned (.agg #[.int .i64 x.wl,.int .i64 x.wh])∧Ext w w':=by
 refine enterQ (c:=cx w 5) Try.func99 rfl rfl rfl rfl ?_
 repeat' (first|((with_reducible apply oq_id);first|(apply oq_fn;exact rfl;first|exact trivial|(and_intros<;>omega)|omega|skip)|((with_reducible apply oq_loadAgg);exact rfl;exact rfl))|((with_reducible apply tl_id);first|(with_reducible apply tl_nil)|((with_reducible apply u_q);(iterate 4 exact rfl))|((with_reducible apply u_s0);exact rfl;exact rfl)|((with_reducible apply u_s);(iterate 3 exact rfl)))|((with_reducible apply os_id);first|((with_reducible apply os_x);exact rfl)|((with_reducible apply os_storeAgg);(iterate 5 exact rfl)))|((with_reducible apply ox_id);first|((with_reducible apply ox_alloc);exact rfl;intro _)|((with_reducible apply ox_boxAgg);exact rfl;intro _))|((with_reducible apply rd_id);first|(apply Rd.own;(repeat first|exact P0|apply P1);exact rfl;done))|((with_reducible apply t_id);first|(with_reducible apply t_seq)|(apply t_region;kernel_rfl)|(with_reducible apply t_ret))|with_reducible apply q_thenN|exact P0|exact Rdn.zero|apply Rdn.succ|((with_reducible apply Norm.nil);exact rfl)|((with_reducible apply Norm.cons);exact rfl)|(with_reducible apply end_ret)|exact rvs_nil|(with_reducible apply rvs_cons)|((with_reducible apply rv_cellAgg);exact rfl;exact rfl)|exact Nat.le_of_ble_eq_true rfl)
 all_goals rfl
def mLo (x:Ld):Int:=tmLo (x.al,x.ah) (x.wl,x.wh)
def mHi (x:Ld):Int:=tmHi (x.al,x.ah) (x.wl,x.wh)
theorem bal2_calls (x:Ld) (hx:x.Ok) (w:World):Calls Try.prog 100 #[.agg #[.int .i64 x.al,.int .i64 x.ah,.int .i64 x.wl,.int .i64 x.wh]] w fun e w'=>e=.returned (.agg #[.int .i64 (mLo x),.int .i64 (mHi x)])∧Ext w w':=by
 have a0:=hx.a0
 have a1:=hx.a1
 have a2:=hx.a2
 have w0:=hx.w0
 have w1:=hx.w1
 have w2:=hx.w2
 refine enterQ (c:=cx w 8) Try.func100 rfl rfl rfl rfl ?_
 repeat' (first|((with_reducible apply oq_id);first|(apply oq_fn;exact rfl;first|exact trivial|(and_intros<;>omega)|omega|skip)|((with_reducible apply oq_loadAgg);exact rfl;exact rfl)|((with_reducible apply oq_call (hc:=Try.call101));exact rfl;exact rfl;exact fun D w1 hw1=>times_calls (x.al,x.ah) (x.wl,x.wh) (by simp only;omega) (by simp only;omega) (by simp only;omega) (by simp only;omega) w1))|((with_reducible apply tl_id);first|(with_reducible apply tl_nil)|((with_reducible apply u_q);(iterate 4 exact rfl))|((with_reducible apply u_s0);exact rfl;exact rfl)|((with_reducible apply u_s);(iterate 3 exact rfl)))|((with_reducible apply os_id);first|((with_reducible apply os_x);exact rfl)|((with_reducible apply os_storeAgg);(iterate 5 exact rfl)))|((with_reducible apply ox_id);first|((with_reducible apply ox_alloc);exact rfl;intro _)|((with_reducible apply ox_boxAgg);exact rfl;intro _))|((with_reducible apply rd_id);first|(apply Rd.own;(repeat first|exact P0|apply P1);exact rfl;done))|((with_reducible apply t_id);first|(with_reducible apply t_seq)|(apply t_region;kernel_rfl)|(with_reducible apply t_ret))|with_reducible apply q_thenN|exact P0|exact Rdn.zero|apply Rdn.succ|((with_reducible apply Norm.nil);exact rfl)|((with_reducible apply Norm.cons);exact rfl)|(with_reducible apply end_ret)|exact rvs_nil|(with_reducible apply rvs_cons)|((with_reducible apply rv_cellAgg);exact rfl;exact rfl)|exact Nat.le_of_ble_eq_true rfl)
 all_goals rfl
theorem mLo_bd {x:Ld} (hx:x.Ok):(-21474836480000≤mLo x∧mLo x≤21474836480000)∧(-21474836480000≤mHi x∧mHi x≤21474836480000):=by
 have a0:=hx.a0
 have a1:=hx.a1
 have a2:=hx.a2
 have w0:=hx.w0
 have w1:=hx.w1
 have w2:=hx.w2
 have k1:=in_mul (a:=x.al) (b:=x.wl) (by omega) (by omega)
 have k2:=in_mul (a:=x.al) (b:=x.wh) (by omega) (by omega)
 have k3:=in_mul (a:=x.ah) (b:=x.wl) (by omega) (by omega)
 have k4:=in_mul (a:=x.ah) (b:=x.wh) (by omega) (by omega)
 unfold mLo mHi tmLo tmHi
 simp only
 omega
theorem hL_y (x:Ld):hL ⟨0,1⟩ x=mHi x:=by
 unfold hL mHi tmHi
 simp only [dot_y,pt]
 rw [Int.mul_comm x.wl x.al,Int.mul_comm x.wl x.ah,Int.mul_comm x.wh x.al,Int.mul_comm x.wh x.ah]
 omega
theorem hL_yn (x:Ld):hL ⟨0,-1⟩ x=-mLo x:=by
 unfold hL mLo tmLo
 simp only [dot_yn,pt]
 rw [Int.mul_comm x.wl x.al,Int.mul_comm x.wl x.ah,Int.mul_comm x.wh x.al,Int.mul_comm x.wh x.ah]
 omega
theorem sum_neg (f:Ld→Int) (l:List Ld):(l.map fun x=>-f x).sum=-(l.map f).sum:=by
 induction l with
 | nil=>rfl
 | cons x l ih=>rw [List.map_cons,List.sum_cons,ih,List.map_cons,List.sum_cons];omega
theorem balance_calls (A:Option Addr) (n c:Nat) (l:List Ld) (h0:chkE l=0) (w:World) (hr:RdS w 4 A n (l.map ldCells)):Calls Try.prog 41 #[.slice A n c] w fun e w'=>e=.returned (.tuple #[.agg #[.int .i64 (l.map Ld.wl).sum,.int .i64 (l.map Ld.wh).sum],.agg #[.int .i64 (l.map mLo).sum,.int .i64 (l.map mHi).sum],.int .i64 0])∧Ext w w':=by
 have hl:l.length=n:=by have:=hr.len;rwa [List.length_map] at this
 obtain ⟨h40,hok⟩:=chkE_0 h0
 have H1:=fun w1 (e:Ext w w1)=>checkLoads_calls A n c l (by omega) w1 (hr.ext e)
 rw [h0] at H1
 have H2:=fun w1 (e:Ext w w1)=>added_calls A n c l (by omega) 99 Ld.wl Ld.wh Try.call99 (fun x _ w1=>bal1_calls x w1) (fun x hx=>by have h1:=(hok x hx).w0;have h2:=(hok x hx).w1;have h3:=(hok x hx).w2;omega) (fun x hx=>by have h1:=(hok x hx).w0;have h2:=(hok x hx).w1;have h3:=(hok x hx).w2;omega) w1 (hr.ext e)
 have H3:=fun w1 (e:Ext w w1)=>added_calls A n c l (by omega) 100 mLo mHi Try.call100 (fun x hx w1=>bal2_calls x (hok x hx) w1) (fun x hx=>(mLo_bd (hok x hx)).1) (fun x hx=>(mLo_bd (hok x hx)).2) w1 (hr.ext e)
 refine enterQ (c:=cx w 18) Try.func41 rfl rfl rfl rfl ?_
 repeat' (first|((with_reducible apply oq_id);first|((with_reducible apply oq_neqF);exact rfl;exact rfl;omega)|(apply oq_fn;exact rfl;first|exact trivial|(and_intros<;>omega)|omega|skip)|((with_reducible apply oq_loadAgg);exact rfl;exact rfl)|((with_reducible apply oq_call (hc:=Try.call39));exact rfl;exact rfl;exact fun D w1 hw1=>H1 w1 hw1.ext.ext)|((with_reducible apply oq_call (hc:=Try.call98));exact rfl;exact rfl;exact fun D w1 hw1=>H2 w1 hw1.ext.ext)|((with_reducible apply oq_call (hc:=Try.call98));exact rfl;exact rfl;exact fun D w1 hw1=>H3 w1 hw1.ext.ext))|((with_reducible apply tl_id);first|(with_reducible apply tl_nil)|((with_reducible apply u_q);(iterate 4 exact rfl))|((with_reducible apply u_s0);exact rfl;exact rfl)|((with_reducible apply u_s);(iterate 3 exact rfl)))|((with_reducible apply gx_id);first|(with_reducible apply v_nil)|((with_reducible apply v_q);(iterate 3 exact rfl)))|((with_reducible apply os_id);first|((with_reducible apply os_x);exact rfl)|((with_reducible apply os_storeAgg);(iterate 5 exact rfl)))|((with_reducible apply ox_id);first|((with_reducible apply ox_alloc);exact rfl;intro _))|((with_reducible apply ai_id);first|((with_reducible apply ai_q);(iterate 5 exact rfl))|((with_reducible apply ai_s0);(iterate 4 exact rfl)))|((with_reducible apply rd_id);first|(apply Rd.own;(repeat first|exact P0|apply P1);exact rfl;done))|((with_reducible apply t_id);first|(apply t_mix (id:=5) [0,1,2] 3 #[false,false,false,true,true,false];kernel_rfl;kernel_rfl;exact rfl)|(with_reducible apply t_seq)|(apply t_region;kernel_rfl)|((with_reducible apply t_condF);exact rfl)|(with_reducible apply t_ret)|(with_reducible apply t_skip))|with_reducible apply q_thenN|exact P0|(with_reducible apply P1)|exact Rdn.zero|apply Rdn.succ|((with_reducible apply Norm.nil);exact rfl)|((with_reducible apply Norm.cons);exact rfl)|(with_reducible apply end_ret)|exact rvs_nil|(with_reducible apply rvs_cons)|((with_reducible apply rv_tmp);exact rfl)|((with_reducible apply rv_cellAgg);exact rfl;exact rfl)|((with_reducible apply al_id);first|(apply al_done;decide +kernel)|(apply al_one 3;decide +kernel)|(apply al_one 4;decide +kernel)|(apply al_one 5;decide +kernel))|exact Nat.le_of_ble_eq_true rfl)
 all_goals rfl
def Far (l:List Ld):Prop:=∃ k x,l[k]?=some x∧((∃ q∈pts x,¬ Bd 268435456 q)∨∃ q∈msum (l.take (k+1)),¬ Bd 268435456 q)
theorem nearB_ex {L:List Pv} (h:nearB L=false):∃ q∈L,¬ Bd 268435456 q:=by
 refine Decidable.byContradiction fun k=>?_
 have:nearB L=true:=nearB_iff.2 fun q hq=>Decidable.byContradiction fun h=>k ⟨q,hq,h⟩
 rw [this] at h;cases h
theorem Reg.rok {l:List Ld} {r:List Pv} (h:Reg l r) (hl:l.length≤12):RgOk r:=⟨h.rg,h.bd,by have:=h.len;omega⟩
theorem One.rok {x:Ld} {s:List Pv} (h:One x s):RgOk s:=⟨h.rg,h.bd,by have:=h.len;omega⟩
theorem in_mul2 {a b:Int} (ha : -20000≤a∧a≤20000) (hb : -1073741824≤b∧b≤1073741824) : -21474836480000≤b*a∧b*a≤21474836480000:=by rw [Int.mul_comm];exact in_mul ha hb
theorem Rg.sidl {r:List Pv} {a:Pv} {E F:List Pv} (h:Rg r a E F) {k:Nat} (hr:r.length≤1∨r.length≤k):(E++F).length≤k:=by
 rcases h.len0 with ⟨rfl,rfl,_⟩|⟨_,e,_⟩
 · exact Nat.zero_le _
 · omega
theorem reached_P (A:Option Addr) (n c:Nat) (l:List Ld) (hn:n≤12) (hok:∀ x∈l,x.Ok) (w:World) (hr:RdS w 4 A n (l.map ldCells)) :
   Calls Try.prog 40 #[.slice A n c] w fun e w'=>∃ v H',e=.returned v∧((∃ g cp R,Reg l R∧v=.tuple #[.slice (some ⟨g,0,none⟩) (R).length cp,.bool true]∧H'=[(g,coB Pv.x Pv.y (R),some (111,2,cp))])∨(Far l∧v=.tuple #[.slice none 0 0,.bool false]∧H'=[]))∧Has w ⟨[],[]⟩ H' w':=by
 have hl:l.length=n:=by have:=hr.len;rwa [List.length_map] at this
 refine enterF (c:=cx w 72) Try.func40 rfl rfl rfl rfl ?_
 refine t_cut (ι:=Unit) (fun _=>[(0,.slice A n c)]) (fun _=>([]:Hp)) (fun _=>True) ?_ ?_
 · repeat' (first|((with_reducible apply oq_id);first|(apply oq_fn;exact rfl;first|exact trivial|(and_intros<;>omega)|omega|skip))|((with_reducible apply tl_id);first|(with_reducible apply tl_nil)|((with_reducible apply u_q);(iterate 4 exact rfl)))|((with_reducible apply t_id);first|(apply t_region;kernel_rfl)))
   all_goals exact ⟨by trivial,(),trivial,by (repeat' (first|exact FrSub.nil|(apply FrSub.cons;exact rfl))),by (repeat' (first|exact HpSub.refl _))⟩
 rintro ⟨⟩ -
 try dsimp only
 refine t_cut (ι:=Nat×Nat) (fun z=>[(0,.slice A n c),(4,.slice (some ⟨z.1,0,none⟩) 1 z.2)]) (fun z=>[(z.1,coB Pv.x Pv.y ([⟨0,0⟩]),some (111,2,z.2))]) (fun _=>True) ?_ ?_
 · repeat' (first|((with_reducible apply oq_id);first|(apply oq_fn;exact rfl;first|exact trivial|(and_intros<;>omega)|omega|skip)|((with_reducible apply oq_build);(iterate 3 exact rfl)))|((with_reducible apply tl_id);first|(with_reducible apply tl_nil)|((with_reducible apply u_q);(iterate 4 exact rfl))|((with_reducible apply u_s);(iterate 3 exact rfl)))|((with_reducible apply os_id);first|((with_reducible apply os_x);exact rfl))|((with_reducible apply ox_id);first|((with_reducible apply ox_buildSlice2);(iterate 6 exact rfl);intro _))|((with_reducible apply t_id);first|(apply t_region;kernel_rfl))|((with_reducible apply Norm.nil);exact rfl)|((with_reducible apply Norm.cons);exact rfl))
   all_goals exact ⟨by trivial,(_,_),trivial,by (repeat' (first|exact FrSub.nil|(apply FrSub.cons;exact rfl))),by (repeat' (first|exact HpSub.refl _))⟩
 rintro ⟨g0,cp0⟩ -
 try dsimp only
 (with_reducible apply t_seq)
 refine t_cut (ι:=Unit) (fun _=>[(4,.slice (some ⟨g0,0,none⟩) 1 cp0),(16,.slice A n c),(17,.int .i64 ((n:Nat):Int)),(18,.int .i64 ((0:Nat):Int))]) (fun _=>[(g0,coB Pv.x Pv.y ([⟨0,0⟩]),some (111,2,cp0))]) (fun _=>True) ?_ ?_
 · repeat' (first|((with_reducible apply oq_id);first|(apply oq_fn;exact rfl;first|exact trivial|(and_intros<;>omega)|omega|skip))|((with_reducible apply tl_id);first|(with_reducible apply tl_nil)|((with_reducible apply u_q);(iterate 4 exact rfl)))|((with_reducible apply t_id);first|(apply t_region;kernel_rfl)))
   all_goals exact ⟨by trivial,(),trivial,by (repeat' (first|exact FrSub.nil|(apply FrSub.cons;exact rfl))),by (repeat' (first|exact HpSub.refl _))⟩
 rintro ⟨⟩ -
 try dsimp only
 (with_reducible apply t_block)
 apply t_loopP (ι:=Nat×Nat×Nat×List Pv) [16,17] (fun z=>[(18,.int .i64 ((z.1:Nat):Int)),(4,.slice (some ⟨z.2.1,0,none⟩) (z.2.2.2).length z.2.2.1)]) (fun z=>[(z.2.1,coB Pv.x Pv.y (z.2.2.2),some (111,2,z.2.2.1))]) (fun z=>z.1≤n∧Reg (l.take z.1) z.2.2.2) (fun z=>n-z.1) ((0,g0,cp0,[⟨0,0⟩]))
 (repeat (first|exact KeepF.nil|(apply KeepF.cons;exact rfl)|apply KeepF.skip))
 (repeat first|exact FrSub.nil|(apply FrSub.cons;exact rfl))
 (try simp only [List.cons_append,List.nil_append])
 (repeat' (first|exact HpSub.refl _))
 · exact ⟨Nat.zero_le _,by rw [List.take_zero];exact reg_nil⟩
 rintro ⟨i,g,cp,R⟩ ⟨hi,hR⟩
 simp only at hi hR
 try simp only [List.cons_append,List.nil_append]
 by_cases hlt:i<n
 rotate_left
 · obtain rfl:i=n:=by omega
   rw [← hl,List.take_length] at hR
   repeat' (first|((with_reducible apply oq_id);first|((with_reducible apply oq_lssF);exact rfl;exact rfl;omega)|(apply oq_fn;exact rfl;first|exact trivial|(and_intros<;>omega)|omega|skip))|((with_reducible apply tl_id);first|(with_reducible apply tl_nil)|((with_reducible apply u_q);(iterate 4 exact rfl)))|((with_reducible apply t_id);first|(with_reducible apply t_seq)|(apply t_region;kernel_rfl)|((with_reducible apply t_condF);exact rfl)|(with_reducible apply t_ret)|(with_reducible apply t_exit))|with_reducible apply q_thenN|with_reducible apply q_thenE|((with_reducible apply q_blockE);exact rfl)|(with_reducible apply end_ret)|exact rvs_nil|(with_reducible apply rvs_cons)|((with_reducible apply rv_tmp);exact rfl))
   all_goals exact ⟨_,.inl ⟨g,cp,R,hR,rfl,rfl⟩,by (repeat' (first|exact HpSub.refl _))⟩
 obtain ⟨B,O,x,rfl,hx,c0,c1,c2,c3⟩:=ld_row hr hlt
 have hxo:=hok x (List.mem_of_getElem? hx)
 have htk:l.take (i+1)=l.take i++[x]:=by rw [List.take_add_one,hx];rfl
 have hRk:=hR.rok (by rw [List.length_take];omega)
 have a0:=hxo.a0
 have a1:=hxo.a1
 have a2:=hxo.a2
 have w0:=hxo.w0
 have w1:=hxo.w1
 have w2:=hxo.w2
 have k1:=in_mul2 (a:=x.al) (b:=x.wl) (by omega) (by omega)
 have k2:=in_mul2 (a:=x.ah) (b:=x.wl) (by omega) (by omega)
 have k3:=in_mul2 (a:=x.al) (b:=x.wh) (by omega) (by omega)
 have k4:=in_mul2 (a:=x.ah) (b:=x.wh) (by omega) (by omega)
 have g1:InR (x.wl*x.al):=⟨by omega,by omega⟩
 have g2:InR (x.wl*x.ah):=⟨by omega,by omega⟩
 have g3:InR (x.wh*x.al):=⟨by omega,by omega⟩
 have g4:InR (x.wh*x.ah):=⟨by omega,by omega⟩
 clear a0 a1 a2 w0 w1 w2
 refine t_cut (ι:=Unit) (fun _=>[(4,.slice (some ⟨g,0,none⟩) (R).length cp),(16,.slice (some ⟨B,O,none⟩) n c),(17,.int .i64 ((n:Nat):Int)),(18,.int .i64 ((i:Nat):Int)),(19,.bool true)]) (fun _=>[(g,coB Pv.x Pv.y (R),some (111,2,cp))]) (fun _=>True) ?_ ?_
 · repeat' (first|((with_reducible apply oq_id);first|((with_reducible apply oq_lssT);exact rfl;exact rfl;omega))|((with_reducible apply tl_id);first|(with_reducible apply tl_nil)|((with_reducible apply u_q);(iterate 4 exact rfl)))|((with_reducible apply t_id);first|(apply t_region;kernel_rfl)))
   all_goals exact ⟨by trivial,(),trivial,by (repeat' (first|exact FrSub.nil|(apply FrSub.cons;exact rfl))),by (repeat' (first|exact HpSub.refl _))⟩
 rintro ⟨⟩ -
 try dsimp only
 refine t_cut (ι:=Unit) (fun _=>[(4,.slice (some ⟨g,0,none⟩) (R).length cp),(16,.slice (some ⟨B,O,none⟩) n c),(17,.int .i64 ((n:Nat):Int)),(18,.int .i64 ((i:Nat):Int))]) (fun _=>[(g,coB Pv.x Pv.y (R),some (111,2,cp))]) (fun _=>True) ?_ ?_
 · repeat' (first|((with_reducible apply t_id);first|((with_reducible apply t_condT);exact rfl)|(with_reducible apply t_skip)))
   all_goals exact ⟨by trivial,(),trivial,by (repeat' (first|exact FrSub.nil|(apply FrSub.cons;exact rfl))),by (repeat' (first|exact HpSub.refl _))⟩
 rintro ⟨⟩ -
 try dsimp only
 (with_reducible apply t_seq)
 (with_reducible apply t_block)
 refine t_cut (ι:=Nat) (fun b6=>[(4,.slice (some ⟨g,0,none⟩) (R).length cp),(16,.slice (some ⟨B,O,none⟩) n c),(17,.int .i64 ((n:Nat):Int)),(18,.int .i64 ((i:Nat):Int)),(6,.pointer (some ⟨b6,0,none⟩))]) (fun b6=>[(b6,[.int .i64 x.al,.int .i64 x.ah,.int .i64 x.wl,.int .i64 x.wh],some (113,4,1)),(g,coB Pv.x Pv.y (R),some (111,2,cp))]) (fun _=>True) ?_ ?_
 · repeat' (first|((with_reducible apply oq_id);first|(focus ((with_reducible apply oq_indexAddrN (i:=i));(iterate 4 exact rfl);omega))|((with_reducible apply oq_loadAgg);exact rfl;exact rfl))|((with_reducible apply tl_id);first|(with_reducible apply tl_nil)|((with_reducible apply u_q);(iterate 4 exact rfl))|((with_reducible apply u_s0);exact rfl;exact rfl)|((with_reducible apply u_s);(iterate 3 exact rfl)))|((with_reducible apply os_id);first|((with_reducible apply os_x);exact rfl)|((with_reducible apply os_storeAgg);(iterate 5 exact rfl)))|((with_reducible apply ox_id);first|((with_reducible apply ox_alloc);exact rfl;intro _))|((with_reducible apply rd_id);first|(apply Rd.old;(first|(with_reducible assumption)|exact c0|exact c1|exact c2|exact c3|exact c4|exact c5|exact c6|exact c7|exact c8|exact d0|exact d1|exact d2|exact d3|exact d4|exact d5);first|exact List.not_mem_nil|exact m0|exact m1|exact m2|exact m3|exact m4|exact m5|exact m6|exact m7|exact m8|exact m9))|((with_reducible apply t_id);first|(apply t_region;kernel_rfl))|exact P0|exact Rdn.zero|apply Rdn.succ|((with_reducible apply Norm.nil);exact rfl)|((with_reducible apply Norm.cons);exact rfl)|exact Nat.le_of_ble_eq_true rfl)
   all_goals exact ⟨by trivial,_,trivial,by (repeat' (first|exact FrSub.nil|(apply FrSub.cons;exact rfl))),by (repeat' (first|exact HpSub.refl _))⟩
 rintro b6 -
 try dsimp only
 refine t_cut (ι:=Unit) (fun _=>[(4,.slice (some ⟨g,0,none⟩) (R).length cp),(16,.slice (some ⟨B,O,none⟩) n c),(17,.int .i64 ((n:Nat):Int)),(18,.int .i64 ((i:Nat):Int)),(6,.pointer (some ⟨b6,0,none⟩)),(7,.slice none 0 0)]) (fun _=>[(b6,[.int .i64 x.al,.int .i64 x.ah,.int .i64 x.wl,.int .i64 x.wh],some (113,4,1)),(g,coB Pv.x Pv.y (R),some (111,2,cp))]) (fun _=>True) ?_ ?_
 · repeat' (first|((with_reducible apply oq_id);first|(apply oq_fn;exact rfl;first|exact trivial|(and_intros<;>omega)|omega|skip))|((with_reducible apply tl_id);first|(with_reducible apply tl_nil)|((with_reducible apply u_q);(iterate 4 exact rfl)))|((with_reducible apply t_id);first|(apply t_region;kernel_rfl)))
   all_goals exact ⟨by trivial,(),trivial,by (repeat' (first|exact FrSub.nil|(apply FrSub.cons;exact rfl))),by (repeat' (first|exact HpSub.refl _))⟩
 rintro ⟨⟩ -
 try dsimp only
 refine t_cut (ι:=Nat×Nat) (fun z=>[(4,.slice (some ⟨g,0,none⟩) (R).length cp),(16,.slice (some ⟨B,O,none⟩) n c),(17,.int .i64 ((n:Nat):Int)),(18,.int .i64 ((i:Nat):Int)),(7,.slice (some ⟨z.1,0,none⟩) 4 z.2)]) (fun z=>[(z.1,coB Pv.x Pv.y (pts x),some (111,2,z.2)),(g,coB Pv.x Pv.y (R),some (111,2,cp))]) (fun _=>True) ?_ ?_
 · refine t_cut (ι:=Nat) (fun b28=>[(4,.slice (some ⟨g,0,none⟩) (R).length cp),(6,.pointer (some ⟨b6,0,none⟩)),(16,.slice (some ⟨B,O,none⟩) n c),(17,.int .i64 ((n:Nat):Int)),(18,.int .i64 ((i:Nat):Int)),(28,.slice (some ⟨b28,0,none⟩) 2 2),(29,.int .i64 ((2:Nat):Int)),(7,.slice none 0 0),(30,.int .i64 ((0:Nat):Int))]) (fun b28=>[(b6,[.int .i64 x.al,.int .i64 x.ah,.int .i64 x.wl,.int .i64 x.wh],some (113,4,1)),(b28,[.int .i64 x.wl,.int .i64 x.wh],some (3,1,2)),(g,coB Pv.x Pv.y (R),some (111,2,cp))]) (fun _=>True) ?_ ?_
   · repeat' (first|((with_reducible apply oq_id);first|(apply oq_fn;exact rfl;first|exact trivial|(and_intros<;>omega)|omega|skip)|((with_reducible apply oq_load);exact rfl;exact rfl))|((with_reducible apply tl_id);first|(with_reducible apply tl_nil)|((with_reducible apply u_q);(iterate 4 exact rfl))|((with_reducible apply u_s);(iterate 3 exact rfl)))|((with_reducible apply os_id);first|((with_reducible apply os_x);exact rfl))|((with_reducible apply ox_id);first|((with_reducible apply ox_buildSlice1);(iterate 6 exact rfl);intro _))|((with_reducible apply rd_id);first|(apply Rd.own;(repeat first|exact P0|apply P1);exact rfl;done))|((with_reducible apply t_id);first|(apply t_region;kernel_rfl)))
     all_goals exact ⟨by trivial,_,trivial,by (repeat' (first|exact FrSub.nil|(apply FrSub.cons;exact rfl))),by (repeat' (first|exact HpSub.refl _|(apply HpSub.consE;(repeat first|exact P0|apply P1);first|exact rfl|(simp;done))))⟩
   rintro b28 -
   try dsimp only
   (with_reducible apply t_block)
   apply t_loopP (ι:=Nat×Option (Nat×Nat)) [4,6,16,17,18,28,29] (fun z=>[(30,.int .i64 ((z.1:Nat):Int)),(7,.slice (clA z.2) (2*z.1) (clC z.2))]) (fun z=>clH 111 2 (coB Pv.x Pv.y ((pts x).take (2*z.1))) z.2++[(b6,[.int .i64 x.al,.int .i64 x.ah,.int .i64 x.wl,.int .i64 x.wh],some (113,4,1)),(b28,[.int .i64 x.wl,.int .i64 x.wh],some (3,1,2)),(g,coB Pv.x Pv.y (R),some (111,2,cp))]) (fun z=>z.1≤2∧(z.2=none↔z.1=0)) (fun z=>2-z.1) ((0,none))
   (repeat (first|exact KeepF.nil|(apply KeepF.cons;exact rfl)|apply KeepF.skip))
   (repeat first|exact FrSub.nil|(apply FrSub.cons;exact rfl))
   (try simp only [List.cons_append,List.nil_append])
   (repeat' (first|exact HpSub.refl _))
   · exact ⟨Nat.zero_le _,by simp⟩
   rintro ⟨j,o⟩ ⟨hj,ho⟩
   simp only at hj ho
   try simp only [List.cons_append,List.nil_append]
   rcases (show j=2∨j=0∨j=1 by omega) with rfl|rfl|rfl
   · rcases o with _|⟨gp,cq⟩
     · exact absurd (ho.1 rfl) (by decide)
     · simp only [clA,clC,clH,List.cons_append,List.nil_append]
       repeat' (first|((with_reducible apply oq_id);first|((with_reducible apply oq_lssF);exact rfl;exact rfl;omega))|((with_reducible apply tl_id);first|(with_reducible apply tl_nil)|((with_reducible apply u_q);(iterate 4 exact rfl)))|((with_reducible apply t_id);first|(with_reducible apply t_seq)|(apply t_region;kernel_rfl)|((with_reducible apply t_condF);exact rfl)|(with_reducible apply t_exit))|with_reducible apply q_thenN|with_reducible apply q_thenE|((with_reducible apply q_blockE);exact rfl))
       all_goals exact ⟨by trivial,(gp,cq),trivial,by (repeat' (first|exact FrSub.nil|(apply FrSub.cons;exact rfl))),by (repeat' (first|exact HpSub.refl _|(apply HpSub.consE;(repeat first|exact P0|apply P1);first|exact rfl|(simp;done))|apply HpSub.skipX))⟩
   · obtain rfl:=ho.2 rfl
     simp only [clA,clC,clH,List.cons_append,List.nil_append]
     repeat' (first|((with_reducible apply oq_id);first|(focus ((with_reducible apply oq_indexAddrN (i:=0));(iterate 4 exact rfl);omega))|(focus ((with_reducible apply (oq_addE (k:=((1:Nat):Int))));exact rfl;exact rfl;omega))|((with_reducible apply oq_mul);exact rfl;exact rfl;(first|exact g1|exact g2|exact g3|exact g4))|((with_reducible apply oq_lssT);exact rfl;exact rfl;omega)|(apply oq_fn;exact rfl;first|exact trivial|(and_intros<;>omega)|omega|skip)|((with_reducible apply oq_load);exact rfl;exact rfl)|((with_reducible apply oq_build);(iterate 3 exact rfl)))|((with_reducible apply tl_id);first|(with_reducible apply tl_nil)|((with_reducible apply u_q);(iterate 4 exact rfl))|((with_reducible apply u_s);(iterate 3 exact rfl)))|((with_reducible apply os_id);first|((with_reducible apply os_x);exact rfl)|((with_reducible apply os_appendNil (hk:=app_ok101));exact rfl;exact rfl))|((with_reducible apply ox_id);first|((with_reducible apply ox_buildSlice2);(iterate 6 exact rfl);intro _))|((with_reducible apply rd_id);first|(apply Rd.own;(repeat first|exact P0|apply P1);exact rfl;done))|((with_reducible apply t_id);first|(with_reducible apply t_seq)|(apply t_region;kernel_rfl)|((with_reducible apply t_condT);exact rfl)|(with_reducible apply t_skip)|(with_reducible apply t_block))|with_reducible apply q_thenN|with_reducible apply q_blockN|exact Rdn.zero|apply Rdn.succ|((with_reducible apply Norm.nil);exact rfl)|((with_reducible apply Norm.cons);exact rfl)|(intro gN cN;with_reducible apply tl_id)|exact Nat.le_of_ble_eq_true rfl|exact (rfl:(_:Bool)=true))
     all_goals (refine ⟨(1,some (gN,cN)),⟨by simp only;omega,by simp⟩,by simp only;omega,?_,?_⟩<;>(simp only [clA,clC,clH,List.cons_append,List.nil_append])<;>(repeat' (first|exact FrSub.nil|(apply FrSub.cons;exact rfl)|exact HpSub.refl _|(apply HpSub.consE;(repeat first|exact P0|apply P1);first|exact rfl|(simp;done))|apply HpSub.skipX)))
   · rcases o with _|⟨gp,cq⟩
     · exact absurd (ho.1 rfl) (by decide)
     · simp only [clA,clC,clH,List.cons_append,List.nil_append]
       have hfl:(coB Pv.x Pv.y ((pts x).take (2*1))).length=(2*1)*2:=rfl
       repeat' (first|((with_reducible apply oq_id);first|(focus ((with_reducible apply oq_indexAddrN (i:=1));(iterate 4 exact rfl);omega))|(focus ((with_reducible apply (oq_addE (k:=((2:Nat):Int))));exact rfl;exact rfl;omega))|((with_reducible apply oq_mul);exact rfl;exact rfl;(first|exact g1|exact g2|exact g3|exact g4))|((with_reducible apply oq_lssT);exact rfl;exact rfl;omega)|(apply oq_fn;exact rfl;first|exact trivial|(and_intros<;>omega)|omega|skip)|((with_reducible apply oq_load);exact rfl;exact rfl)|((with_reducible apply oq_build);(iterate 3 exact rfl)))|((with_reducible apply tl_id);first|(with_reducible apply tl_nil)|((with_reducible apply u_q);(iterate 4 exact rfl))|((with_reducible apply u_s);(iterate 3 exact rfl)))|((with_reducible apply os_id);first|((with_reducible apply os_x);exact rfl)|((with_reducible apply os_append (hk:=app_ok101));exact rfl;exact rfl;(repeat first|exact P0|apply P1)))|((with_reducible apply ox_id);first|((with_reducible apply ox_buildSlice2);(iterate 6 exact rfl);intro _))|((with_reducible apply rd_id);first|(apply Rd.own;(repeat first|exact P0|apply P1);exact rfl;done))|((with_reducible apply t_id);first|(with_reducible apply t_seq)|(apply t_region;kernel_rfl)|((with_reducible apply t_condT);exact rfl)|(with_reducible apply t_skip)|(with_reducible apply t_block))|with_reducible apply q_thenN|with_reducible apply q_blockN|exact Rdn.zero|apply Rdn.succ|((with_reducible apply Norm.nil);exact rfl)|((with_reducible apply Norm.cons);exact rfl)|exact hfl|(intro gN cN;with_reducible apply tl_id)|exact Nat.le_of_ble_eq_true rfl|exact (rfl:(_:Bool)=true))
       all_goals (refine ⟨(2,some (gN,cN)),⟨by simp only;omega,by simp⟩,by simp only;omega,?_,?_⟩<;>(simp only [clA,clC,clH,List.cons_append,List.nil_append])<;>(repeat' (first|exact FrSub.nil|(apply FrSub.cons;exact rfl)|exact HpSub.refl _|(apply HpSub.consE;(repeat first|exact P0|apply P1);first|exact rfl|(simp;done))|apply HpSub.skipX)))
 rintro ⟨gp,cq⟩ -
 try dsimp only
 cases hnr:nearB (pts x) with
 | false=>
   have HF:=fun w1 (h:RdS w1 2 (some ⟨gp,0,none⟩) 4 ((pts x).map (coC Pv.x Pv.y)))=>hullFar_calls ⟨gp,0,none⟩ 4 cq (pts x) rfl (by omega) (by omega) hnr w1 h
   have SN:=fun w1 (h:RdS w1 2 (some ⟨g,0,none⟩) R.length (R.map (coC Pv.x Pv.y)))=>sumNil_calls g 0 R.length cp R rfl hRk w1 h
   repeat' (first|((with_reducible apply oq_id);first|((with_reducible apply oq_neqT);exact rfl;exact rfl;omega)|(apply oq_fn;exact rfl;first|exact trivial|(and_intros<;>omega)|omega|skip)|((with_reducible apply oq_call (hc:=Try.call96));exact rfl;exact rfl;exact fun D w1 hw1=>HF w1 (Blk.rows (hw1.blkP (by (repeat first|exact P0|apply P1))) rfl (co_rl _)))|((with_reducible apply oq_call (hc:=Try.call97));exact rfl;exact rfl;exact fun D w1 hw1=>SN w1 (Blk.rows (hw1.blkP (by (repeat first|exact P0|apply P1))) (by rw [List.length_map]) (co_rl _))))|((with_reducible apply tl_id);first|(with_reducible apply tl_nil)|((with_reducible apply u_q);(iterate 4 exact rfl))|((with_reducible apply u_skip);(iterate 3 exact rfl)))|((with_reducible apply t_id);first|(with_reducible apply t_seq)|(apply t_region;kernel_rfl)|((with_reducible apply t_condT);exact rfl)|(with_reducible apply t_ret))|with_reducible apply q_thenN|with_reducible apply q_thenR|with_reducible apply q_blockR|(with_reducible apply end_ret)|exact rvs_nil|(with_reducible apply rvs_cons)|((with_reducible apply rv_tmp);exact rfl))
   all_goals exact ⟨_,.inr ⟨⟨i,x,hx,.inl (nearB_ex hnr)⟩,rfl,rfl⟩,HpSub.nil⟩
 | true=>
   have HH:=fun w1 (h:RdS w1 2 (some ⟨gp,0,none⟩) 4 ((pts x).map (coC Pv.x Pv.y)))=>hullN_P ⟨gp,0,none⟩ 4 cq (pts x) w1 h rfl (by omega) (by omega) (nearB_iff.1 hnr)
   refine t_cut (ι:=Nat×Nat×List Pv) (fun z=>[(4,.slice (some ⟨g,0,none⟩) (R).length cp),(10,.slice (some ⟨z.1,0,none⟩) (hulI z.2.2).length z.2.1),(11,.int .i64 0),(16,.slice (some ⟨B,O,none⟩) n c),(17,.int .i64 ((n:Nat):Int)),(18,.int .i64 ((i:Nat):Int))]) (fun z=>[(z.1,coB Pv.x Pv.y (hulI z.2.2),some (111,2,z.2.1)),(g,coB Pv.x Pv.y (R),some (111,2,cp))]) (fun z=>z.2.2.Pairwise (fun a b=>ltP a b=true)∧(∀ q,q∈z.2.2↔q∈pts x)) ?_ ?_
   · repeat' (first|((with_reducible apply oq_id);first|(apply oq_fn;exact rfl;first|exact trivial|(and_intros<;>omega)|omega|skip))|((with_reducible apply tl_id);first|(with_reducible apply tl_nil)|((with_reducible apply u_s);(iterate 3 exact rfl);(with_reducible apply os_callF (PV:=fun v H'=>∃ gs cs D,D.Pairwise (fun a b=>ltP a b=true)∧(∀ q,q∈D↔q∈pts x)∧v=.tuple #[.slice (some ⟨gs,0,none⟩) (hulI D).length cs,.int .i64 0]∧H'=[(gs,coB Pv.x Pv.y (hulI D),some (111,2,cs))]) (hc:=Try.call96));exact rfl;exact rfl;exact fun D w1 hw1=>HH w1 (Blk.rows (hw1.blkP (by (repeat first|exact P0|apply P1))) rfl (co_rl _));rintro _ _ ⟨gs,cs,Dq,h3,h4,rfl,rfl⟩;simp only [List.cons_append,List.nil_append])|((with_reducible apply u_q);(iterate 4 exact rfl)))|((with_reducible apply t_id);first|(apply t_region;kernel_rfl)))
     all_goals exact ⟨by trivial,(gs,cs,Dq),⟨h3,h4⟩,by (repeat' (first|exact FrSub.nil|(apply FrSub.cons;exact rfl))),by (repeat' (first|exact HpSub.refl _|(apply HpSub.consE;(repeat first|exact P0|apply P1);first|exact rfl|(simp;done))|apply HpSub.skipX))⟩
   rintro ⟨gs,cs,Dq⟩ ⟨h3,h4⟩
   simp only at h3 h4
   try dsimp only
   have hS:=one_of h3 h4 (nearB_iff.1 hnr)
   have hSk:=hS.rok
   obtain ⟨S1,hS1⟩:∃ s,hulI Dq=s:=⟨_,rfl⟩
   rw [hS1] at hS hSk ⊢
   obtain ⟨a,E,F0,rg⟩:=hR.rg
   obtain ⟨b,G,G2,sg⟩:=hS.rg
   obtain ⟨LL,hLL⟩:=lift_nz (X:=(E++F0)++(G++G2)) fun u hu=>by
     rcases List.mem_append.1 hu with hu|hu
     · exact rg.nz u hu
     · exact sg.nz u hu
   have e1:=rg.sidl hR.len
   have e2:=sg.sidl (.inr hS.len)
   rw [List.length_take] at e1
   have SS:=fun w1 (h:RdS w1 2 (some ⟨g,0,none⟩) R.length (R.map (coC Pv.x Pv.y))) (k:RdS w1 2 (some ⟨gs,0,none⟩) S1.length (S1.map (coC Pv.x Pv.y)))=>sumN_P g 0 R.length cp R rfl hRk rg gs 0 S1.length cs S1 rfl hSk sg LL hLL (by omega) w1 h k
   repeat' (first|((with_reducible apply oq_id);first|(focus ((with_reducible apply (oq_addE (k:=((i+1:Nat):Int))));exact rfl;exact rfl;omega))|((with_reducible apply oq_neqT);exact rfl;exact rfl;omega)|((with_reducible apply oq_neqF);exact rfl;exact rfl;omega)|(apply oq_fn;exact rfl;first|exact trivial|(and_intros<;>omega)|omega|skip))|((with_reducible apply tl_id);first|(with_reducible apply tl_nil)|((with_reducible apply u_s);(iterate 3 exact rfl);(with_reducible apply os_callF (PV:=fun v H1=>∃ D,D.Pairwise (fun a b=>ltP a b=true)∧(∀ q,q∈D↔q∈path (Pv.add a b) ((srt ltS2 LL).map Subtype.val))∧((nearB (hulI D)=true∧∃ g cp,v=.tuple #[.slice (some ⟨g,0,none⟩) (hulI D).length cp,.int .i64 0]∧H1=[(g,coB Pv.x Pv.y (hulI D),some (111,2,cp))])∨(nearB (hulI D)=false∧v=.tuple #[.slice none 0 0,.int .i64 11]∧H1=[]))) (hc:=Try.call97));exact rfl;exact rfl;exact fun D w1 hw1=>SS w1 (Blk.rows (hw1.blkP (by (repeat first|exact P0|apply P1))) (by rw [List.length_map]) (co_rl _)) (Blk.rows (hw1.blkP (by (repeat first|exact P0|apply P1))) (by rw [List.length_map]) (co_rl _));rintro _ _ ⟨Dr,h5,h6,(⟨h7,gr,cr,rfl,rfl⟩|⟨h7,rfl,rfl⟩)⟩;simp only [List.cons_append,List.nil_append])|((with_reducible apply u_q);(iterate 4 exact rfl)))|((with_reducible apply t_id);first|(with_reducible apply t_seq)|(apply t_region;kernel_rfl)|((with_reducible apply t_condT);exact rfl)|((with_reducible apply t_condF);exact rfl)|(with_reducible apply t_ret)|(with_reducible apply t_skip))|with_reducible apply q_thenN|with_reducible apply q_thenR|with_reducible apply q_blockR|with_reducible apply q_blockN|(with_reducible apply end_ret)|exact rvs_nil|(with_reducible apply rvs_cons)|((with_reducible apply rv_tmp);exact rfl))
   · have h8:=reg_step hR rg hS sg hLL h5 h6
     refine ⟨(i+1,gr,cr,hulI Dr),⟨by simp only;omega,by simp only;rw [htk];exact h8.reg (nearB_iff.1 h7)⟩,by simp only;omega,by (repeat' (first|exact FrSub.nil|(apply FrSub.cons;exact rfl))),by (repeat' (first|exact HpSub.refl _|(apply HpSub.consE;(repeat first|exact P0|apply P1);first|exact rfl|(simp;done))|apply HpSub.skipX))⟩
   · have h8:=reg_step hR rg hS sg hLL h5 h6
     obtain ⟨q,hq,hqb⟩:=nearB_ex h7
     exact ⟨_,.inr ⟨⟨i,x,hx,.inr ⟨q,by rw [htk];exact h8.ms q hq,hqb⟩⟩,rfl,rfl⟩,HpSub.nil⟩
def vl (q:Int×Int×Int) (a w:Int):Int:=w*(q.1+q.2.1*a)
def LimB (q:Int×Int×Int):Bool:=decide (-1000≤q.1∧q.1≤1000) && decide (-1000≤q.2.1∧q.2.1≤1000) && decide (-1000000000000000000≤q.2.2∧q.2.2≤1000000000000000000)
structure LimOk (q:Int×Int×Int):Prop where
 a0 : -1000≤q.1
 a1:q.1≤1000
 b0 : -1000≤q.2.1
 b1:q.2.1≤1000
theorem limB_ok {q:Int×Int×Int} (h:LimB q=true):LimOk q:=by
 unfold LimB at h
 simp only [Bool.and_eq_true,decide_eq_true_eq] at h
 exact ⟨h.1.1.1,h.1.1.2,h.1.2.1,h.1.2.2⟩
theorem in_mulM {a b:Int} (ha : -1000≤a∧a≤1000) (hb : -20000≤b∧b≤20000) : -20000000≤a*b∧a*b≤20000000:=by
 have h1:=Int.mul_nonneg (show 0≤1000-a by omega) (show 0≤20000-b by omega)
 have h2:=Int.mul_nonneg (show 0≤1000+a by omega) (show 0≤20000+b by omega)
 have h3:=Int.mul_nonneg (show 0≤1000-a by omega) (show 0≤20000+b by omega)
 have h4:=Int.mul_nonneg (show 0≤1000+a by omega) (show 0≤20000-b by omega)
 have e1:(1000-a)*(20000-b)=1000*20000-1000*b-20000*a+a*b:=by rw [Int.sub_mul,Int.mul_sub,Int.mul_sub,Int.mul_comm a 20000];omega
 have e2:(1000+a)*(20000+b)=1000*20000+1000*b+20000*a+a*b:=by rw [Int.add_mul,Int.mul_add,Int.mul_add,Int.mul_comm a 20000];omega
 have e3:(1000-a)*(20000+b)=1000*20000+1000*b-20000*a-a*b:=by rw [Int.sub_mul,Int.mul_add,Int.mul_add,Int.mul_comm a 20000];omega
 have e4:(1000+a)*(20000-b)=1000*20000-1000*b+20000*a-a*b:=by rw [Int.add_mul,Int.mul_sub,Int.mul_sub,Int.mul_comm a 20000];omega
 omega
theorem in_mulW {w s:Int} (hw : -1073741824≤w∧w≤1073741824) (hs : -20001000≤s∧s≤20001000) : -21475910221824000≤w*s∧w*s≤21475910221824000:=by
 have h1:=Int.mul_nonneg (show 0≤1073741824-w by omega) (show 0≤20001000-s by omega)
 have h2:=Int.mul_nonneg (show 0≤1073741824+w by omega) (show 0≤20001000+s by omega)
 have h3:=Int.mul_nonneg (show 0≤1073741824-w by omega) (show 0≤20001000+s by omega)
 have h4:=Int.mul_nonneg (show 0≤1073741824+w by omega) (show 0≤20001000-s by omega)
 have e1:(1073741824-w)*(20001000-s)=1073741824*20001000-1073741824*s-20001000*w+w*s:=by rw [Int.sub_mul,Int.mul_sub,Int.mul_sub,Int.mul_comm w 20001000];omega
 have e2:(1073741824+w)*(20001000+s)=1073741824*20001000+1073741824*s+20001000*w+w*s:=by rw [Int.add_mul,Int.mul_add,Int.mul_add,Int.mul_comm w 20001000];omega
 have e3:(1073741824-w)*(20001000+s)=1073741824*20001000+1073741824*s-20001000*w-w*s:=by rw [Int.sub_mul,Int.mul_add,Int.mul_add,Int.mul_comm w 20001000];omega
 have e4:(1073741824+w)*(20001000-s)=1073741824*20001000-1073741824*s+20001000*w-w*s:=by rw [Int.add_mul,Int.mul_sub,Int.mul_sub,Int.mul_comm w 20001000];omega
 omega
theorem vl_bd {q:Int×Int×Int} (hq:LimOk q) {a w:Int} (ha : -20000≤a∧a≤20000) (hw : -1073741824≤w∧w≤1073741824) : -21475910221824000≤vl q a w∧vl q a w≤21475910221824000:=by
 have h1:=in_mulM ⟨hq.b0,hq.b1⟩ ha
 have:=hq.a0
 have:=hq.a1
 exact in_mulW hw (by omega)
theorem value_calls (q:Int×Int×Int) (hq:LimOk q) (a v:Int) (ha : -20000≤a∧a≤20000) (hw : -1073741824≤v∧v≤1073741824) (w:World):Calls Try.prog 142 #[.agg #[.int .i64 q.1,.int .i64 q.2.1,.int .i64 q.2.2],.agg #[.int .i64 a,.int .i64 v]] w fun e w'=>e=.returned (.int .i64 (vl q a v))∧Ext w w':=by
 have k1:=in_mulM ⟨hq.b0,hq.b1⟩ ha
 have k2:=vl_bd hq ha hw
 have a0:=hq.a0
 have a1:=hq.a1
 unfold vl at k2 ⊢
 have g1:InR (q.2.1*a):=⟨by omega,by omega⟩
 have g3:InR (v*(q.1+q.2.1*a)):=⟨by omega,by omega⟩
 refine enterQ (c:=cx w 18) Try.func142 rfl rfl rfl rfl ?_
 repeat' (first|((with_reducible apply oq_id);first|((with_reducible apply oq_mul);exact rfl;exact rfl;(first|exact g1|exact g3))|(apply oq_fn;exact rfl;first|exact trivial|(and_intros<;>omega)|omega|skip)|((with_reducible apply oq_load);exact rfl;exact rfl))|((with_reducible apply tl_id);first|(with_reducible apply tl_nil)|((with_reducible apply u_q);(iterate 4 exact rfl))|((with_reducible apply u_s);(iterate 3 exact rfl)))|((with_reducible apply os_id);first|((with_reducible apply os_x);exact rfl))|((with_reducible apply ox_id);first|((with_reducible apply ox_boxAgg);exact rfl;intro _))|((with_reducible apply rd_id);first|(apply Rd.own;(repeat first|exact P0|apply P1);exact rfl;done))|((with_reducible apply t_id);first|(with_reducible apply t_seq)|(apply t_region;kernel_rfl)|(with_reducible apply t_ret))|with_reducible apply q_thenN|(with_reducible apply end_ret)|exact rvs_nil|(with_reducible apply rvs_cons)|((with_reducible apply rv_tmp);exact rfl))
 all_goals rfl
def stp (q:Int×Int×Int) (p:Int×Int×Int) (a w:Int):Int×Int×Int:=if p.2.2<vl q a w then (a,w,vl q a w) else p
def crn (q:Int×Int×Int) (x:Ld):Nat→Int×Int×Int
 | 0=>(x.al,x.wl,vl q x.al x.wl)
 | 1=>stp q (x.al,x.wl,vl q x.al x.wl) x.ah x.wl
 | 2=>stp q (stp q (x.al,x.wl,vl q x.al x.wl) x.ah x.wl) x.al x.wh
 | _=>stp q (stp q (stp q (x.al,x.wl,vl q x.al x.wl) x.ah x.wl) x.al x.wh) x.ah x.wh
theorem stp_v (q p:Int×Int×Int) (a w:Int):(stp q p a w).2.2=max p.2.2 (vl q a w):=by
 unfold stp;split<;>(try simp only)<;>omega
theorem crn_v (q:Int×Int×Int) (x:Ld):(crn q x 3).2.2=hL ⟨q.1,q.2.1⟩ x:=by
 show (stp q (stp q (stp q (x.al,x.wl,vl q x.al x.wl) x.ah x.wl) x.al x.wh) x.ah x.wh).2.2=_
 rw [stp_v,stp_v,stp_v]
 unfold hL
 simp only [dot_pt]
 unfold vl
 omega
theorem corner_calls (q:Int×Int×Int) (hq:LimOk q) (x:Ld) (hx:x.Ok) (w:World):Calls Try.prog 107 #[.agg #[.int .i64 q.1,.int .i64 q.2.1,.int .i64 q.2.2],.agg #[.int .i64 x.al,.int .i64 x.ah,.int .i64 x.wl,.int .i64 x.wh]] w fun e w'=>e=.returned (.tuple #[.agg #[.int .i64 (crn q x 3).1,.int .i64 (crn q x 3).2.1],.int .i64 (crn q x 3).2.2])∧Ext w w':=by
 have a0:=hx.a0
 have a1:=hx.a1
 have a2:=hx.a2
 have w0:=hx.w0
 have w1:=hx.w1
 have w2:=hx.w2
 have HV0:=fun w1=>value_calls q hq x.al x.wl (by omega) (by omega) w1
 refine enterQ (c:=cx w 59) Try.func107 rfl rfl rfl rfl ?_
 refine t_cut (ι:=Nat×Nat×Nat) (fun z=>[(2,.pointer (some ⟨z.1,0,none⟩)),(3,.pointer (some ⟨z.2.2,0,none⟩)),(4,.pointer (some ⟨z.2.1,0,none⟩))]) (fun z=>(z.1,[.int .i64 q.1,.int .i64 q.2.1,.int .i64 q.2.2],some (180,3,1))::(z.2.1,[.int .i64 0,.int .i64 0],some (228,2,1))::(z.2.2,[.int .i64 x.al,.int .i64 x.ah,.int .i64 x.wl,.int .i64 x.wh],some (113,4,1))::[]) (fun _=>True) ?_ ?_
 · repeat' (first|((with_reducible apply oq_id);first|(apply oq_fn;exact rfl;first|exact trivial|(and_intros<;>omega)|omega|skip))|((with_reducible apply tl_id);first|(with_reducible apply tl_nil)|((with_reducible apply u_q);(iterate 4 exact rfl))|((with_reducible apply u_s);(iterate 3 exact rfl)))|((with_reducible apply os_id);first|((with_reducible apply os_x);exact rfl))|((with_reducible apply ox_id);first|((with_reducible apply ox_alloc);exact rfl;intro _)|((with_reducible apply ox_boxAgg);exact rfl;intro _))|((with_reducible apply t_id);first|(apply t_region;kernel_rfl)))
   all_goals exact ⟨by trivial,(_,_,_),trivial,by (repeat' (first|exact FrSub.nil|(apply FrSub.cons;exact rfl))),by (repeat' (first|exact HpSub.refl _|(apply HpSub.consE;(repeat first|exact P0|apply P1);first|exact rfl|(simp;done))))⟩
 rintro ⟨b2,b4,b3⟩ -
 try dsimp only
 refine t_cut (ι:=Nat) (fun b6=>[(2,.pointer (some ⟨b2,0,none⟩)),(3,.pointer (some ⟨b3,0,none⟩)),(4,.pointer (some ⟨b4,0,none⟩)),(6,.pointer (some ⟨b6,0,none⟩))]) (fun b6=>(b6,[.int .i64 (crn q x 0).1,.int .i64 (crn q x 0).2.1],some (228,2,1))::(b2,[.int .i64 q.1,.int .i64 q.2.1,.int .i64 q.2.2],some (180,3,1))::(b4,[.int .i64 0,.int .i64 0],some (228,2,1))::(b3,[.int .i64 x.al,.int .i64 x.ah,.int .i64 x.wl,.int .i64 x.wh],some (113,4,1))::[]) (fun _=>True) ?_ ?_
 · repeat' (first|((with_reducible apply oq_id);first|(apply oq_fn;exact rfl;first|exact trivial|(and_intros<;>omega)|omega|skip)|((with_reducible apply oq_load);exact rfl;exact rfl)|((with_reducible apply oq_build);(iterate 3 exact rfl)))|((with_reducible apply tl_id);first|(with_reducible apply tl_nil)|((with_reducible apply u_q);(iterate 4 exact rfl))|((with_reducible apply u_s0);exact rfl;exact rfl)|((with_reducible apply u_s);(iterate 3 exact rfl)))|((with_reducible apply os_id);first|((with_reducible apply os_x);exact rfl)|((with_reducible apply os_storeAgg);(iterate 5 exact rfl)))|((with_reducible apply ox_id);first|((with_reducible apply ox_alloc);exact rfl;intro _))|((with_reducible apply rd_id);first|(apply Rd.own;(repeat first|exact P0|apply P1);exact rfl;done))|((with_reducible apply t_id);first|(apply t_region;kernel_rfl))|exact P0|((with_reducible apply Norm.nil);exact rfl)|((with_reducible apply Norm.cons);exact rfl)|exact Nat.le_of_ble_eq_true rfl)
   all_goals exact ⟨by trivial,_,trivial,by (repeat' (first|exact FrSub.nil|(apply FrSub.cons;exact rfl))),by (repeat' (first|exact HpSub.refl _))⟩
 rintro b6 -
 try dsimp only
 refine t_cut (ι:=Unit) (fun _=>[(2,.pointer (some ⟨b2,0,none⟩)),(3,.pointer (some ⟨b3,0,none⟩)),(4,.pointer (some ⟨b4,0,none⟩)),(6,.pointer (some ⟨b6,0,none⟩)),(7,.int .i64 (crn q x 0).2.2)]) (fun _=>(b6,[.int .i64 (crn q x 0).1,.int .i64 (crn q x 0).2.1],some (228,2,1))::(b2,[.int .i64 q.1,.int .i64 q.2.1,.int .i64 q.2.2],some (180,3,1))::(b4,[.int .i64 0,.int .i64 0],some (228,2,1))::(b3,[.int .i64 x.al,.int .i64 x.ah,.int .i64 x.wl,.int .i64 x.wh],some (113,4,1))::[]) (fun _=>True) ?_ ?_
 · repeat' (first|((with_reducible apply oq_id);first|(apply oq_fn;exact rfl;first|exact trivial|(and_intros<;>omega)|omega|skip)|((with_reducible apply oq_loadAgg);exact rfl;exact rfl)|((with_reducible apply oq_call (hc:=Try.call142));exact rfl;exact rfl;exact fun D w1 hw1=>HV0 w1))|((with_reducible apply tl_id);first|(with_reducible apply tl_nil)|((with_reducible apply u_q);(iterate 4 exact rfl)))|((with_reducible apply rd_id);first|(apply Rd.own;(repeat first|exact P0|apply P1);exact rfl;done))|((with_reducible apply t_id);first|(apply t_region;kernel_rfl))|exact Rdn.zero|apply Rdn.succ)
   all_goals exact ⟨by trivial,(),trivial,by (repeat' (first|exact FrSub.nil|(apply FrSub.cons;exact rfl))),by (repeat' (first|exact HpSub.refl _))⟩
 rintro ⟨⟩ -
 try dsimp only
 (with_reducible apply t_seq)
 refine t_cut (ι:=Nat) (fun g=>[(2,.pointer (some ⟨b2,0,none⟩)),(4,.pointer (some ⟨b4,0,none⟩)),(6,.pointer (some ⟨b6,0,none⟩)),(42,.slice (some ⟨g,0,none⟩) 3 3),(43,.int .i64 ((3:Nat):Int)),(44,.int .i64 ((0:Nat):Int)),(7,.int .i64 (crn q x 0).2.2)]) (fun g=>(b6,[.int .i64 (crn q x (0)).1,.int .i64 (crn q x (0)).2.1],some (228,2,1))::(b2,[.int .i64 q.1,.int .i64 q.2.1,.int .i64 q.2.2],some (180,3,1))::(b4,[.int .i64 0,.int .i64 0],some (228,2,1))::(g,[.int .i64 x.ah,.int .i64 x.wl,.int .i64 x.al,.int .i64 x.wh,.int .i64 x.ah,.int .i64 x.wh],some (228,2,3))::[]) (fun _=>True) ?_ ?_
 · repeat' (first|((with_reducible apply oq_id);first|(apply oq_fn;exact rfl;first|exact trivial|(and_intros<;>omega)|omega|skip)|((with_reducible apply oq_load);exact rfl;exact rfl)|((with_reducible apply oq_build);(iterate 3 exact rfl)))|((with_reducible apply tl_id);first|(with_reducible apply tl_nil)|((with_reducible apply u_q);(iterate 4 exact rfl))|((with_reducible apply u_s);(iterate 3 exact rfl)))|((with_reducible apply os_id);first|((with_reducible apply os_x);exact rfl))|((with_reducible apply ox_id);first|((with_reducible apply ox_buildSlice2);(iterate 6 exact rfl);intro _))|((with_reducible apply rd_id);first|(apply Rd.own;(repeat first|exact P0|apply P1);exact rfl;done))|((with_reducible apply t_id);first|(apply t_region;kernel_rfl))|((with_reducible apply Norm.nil);exact rfl)|((with_reducible apply Norm.cons);exact rfl))
   all_goals exact ⟨by trivial,_,trivial,by (repeat' (first|exact FrSub.nil|(apply FrSub.cons;exact rfl))),by (repeat' (first|exact HpSub.refl _|(apply HpSub.consE;(repeat first|exact P0|apply P1);first|exact rfl|(simp;done))|apply HpSub.skipX))⟩
 rintro g -
 try dsimp only
 (with_reducible apply t_block)
 apply t_loopP (ι:=Nat) [2,4,6,42,43] (fun i=>[(44,.int .i64 ((i:Nat):Int)),(7,.int .i64 (crn q x i).2.2)]) (fun i=>(b6,[.int .i64 (crn q x i).1,.int .i64 (crn q x i).2.1],some (228,2,1))::(b2,[.int .i64 q.1,.int .i64 q.2.1,.int .i64 q.2.2],some (180,3,1))::(b4,[.int .i64 0,.int .i64 0],some (228,2,1))::(g,[.int .i64 x.ah,.int .i64 x.wl,.int .i64 x.al,.int .i64 x.wh,.int .i64 x.ah,.int .i64 x.wh],some (228,2,3))::[]) (fun i=>i≤3) (fun i=>3-i) (0)
 (repeat (first|exact KeepF.nil|(apply KeepF.cons;exact rfl)|apply KeepF.skip))
 (repeat first|exact FrSub.nil|(apply FrSub.cons;exact rfl))
 (try simp only [List.cons_append,List.nil_append])
 (repeat' (first|exact HpSub.refl _))
 · exact Nat.zero_le _
 rintro i hi
 try simp only [List.cons_append,List.nil_append]
 rcases (show i=3∨i=0∨i=1∨i=2 by omega) with rfl|rfl|rfl|rfl
 · repeat' (first|((with_reducible apply oq_id);first|((with_reducible apply oq_lssF);exact rfl;exact rfl;omega)|(apply oq_fn;exact rfl;first|exact trivial|(and_intros<;>omega)|omega|skip)|((with_reducible apply oq_loadAgg);exact rfl;exact rfl))|((with_reducible apply tl_id);first|(with_reducible apply tl_nil)|((with_reducible apply u_q);(iterate 4 exact rfl))|((with_reducible apply u_s0);exact rfl;exact rfl))|((with_reducible apply os_id);first|((with_reducible apply os_storeAgg);(iterate 5 exact rfl)))|((with_reducible apply rd_id);first|(apply Rd.own;(repeat first|exact P0|apply P1);exact rfl;done))|((with_reducible apply t_id);first|(with_reducible apply t_seq)|(apply t_region;kernel_rfl)|((with_reducible apply t_condF);exact rfl)|(with_reducible apply t_ret)|(with_reducible apply t_exit))|with_reducible apply q_thenN|with_reducible apply q_thenE|((with_reducible apply q_blockE);exact rfl)|exact P0|(with_reducible apply P1)|exact Rdn.zero|apply Rdn.succ|((with_reducible apply Norm.nil);exact rfl)|((with_reducible apply Norm.cons);exact rfl)|(with_reducible apply end_ret)|exact rvs_nil|(with_reducible apply rvs_cons)|((with_reducible apply rv_tmp);exact rfl)|((with_reducible apply rv_cellAgg);exact rfl;exact rfl)|exact Nat.le_of_ble_eq_true rfl)
   all_goals rfl
 · have HV:=fun w1=>value_calls q hq x.ah x.wl (by omega) (by omega) w1
   have hnx:crn q x 1=stp q (crn q x 0) x.ah x.wl:=rfl
   obtain ⟨⟨pa,pw,pv⟩,hp⟩:∃ p,crn q x 0=p:=⟨_,rfl⟩
   obtain ⟨v,hv⟩:∃ v,vl q x.ah x.wl=v:=⟨_,rfl⟩
   rw [hp] at hnx ⊢
   unfold stp at hnx
   rw [hv] at hnx HV
   simp only at hnx ⊢
   by_cases hlt:pv<v
   · rw [if_pos hlt] at hnx
     repeat' (first|((with_reducible apply oq_id);first|(focus ((with_reducible apply oq_indexAddrN (i:=0));(iterate 4 exact rfl);omega))|(focus ((with_reducible apply (oq_addE (k:=((1:Nat):Int))));exact rfl;exact rfl;omega))|((with_reducible apply oq_gtrT);exact rfl;exact rfl;omega)|((with_reducible apply oq_lssT);exact rfl;exact rfl;omega)|(apply oq_fn;exact rfl;first|exact trivial|(and_intros<;>omega)|omega|skip)|((with_reducible apply oq_loadAgg);exact rfl;exact rfl)|((with_reducible apply oq_call (hc:=Try.call142));exact rfl;exact rfl;exact fun D w1 hw1=>HV w1))|((with_reducible apply tl_id);first|(with_reducible apply tl_nil)|((with_reducible apply u_q);(iterate 4 exact rfl))|((with_reducible apply u_s0);exact rfl;exact rfl)|((with_reducible apply u_s);(iterate 3 exact rfl)))|((with_reducible apply os_id);first|((with_reducible apply os_x);exact rfl)|((with_reducible apply os_storeAgg);(iterate 5 exact rfl)))|((with_reducible apply ox_id);first|((with_reducible apply ox_alloc);exact rfl;intro _))|((with_reducible apply rd_id);first|(apply Rd.own;(repeat first|exact P0|apply P1);exact rfl;done))|((with_reducible apply t_id);first|(with_reducible apply t_seq)|(apply t_region;kernel_rfl)|((with_reducible apply t_condT);exact rfl)|(with_reducible apply t_skip)|(with_reducible apply t_block))|with_reducible apply q_thenN|with_reducible apply q_blockN|exact P0|(with_reducible apply P1)|exact Rdn.zero|apply Rdn.succ|((with_reducible apply Norm.nil);exact rfl)|((with_reducible apply Norm.cons);exact rfl)|exact Nat.le_of_ble_eq_true rfl)
     all_goals (refine ⟨1,by omega,by omega,?_,?_⟩<;>(try simp only [hnx])<;>(repeat' (first|exact FrSub.nil|(apply FrSub.cons;exact rfl)|exact HpSub.refl _|(apply HpSub.consE;(repeat first|exact P0|apply P1);first|exact rfl|(simp;done))|apply HpSub.skipX)))
   · rw [if_neg hlt] at hnx
     repeat' (first|((with_reducible apply oq_id);first|(focus ((with_reducible apply oq_indexAddrN (i:=0));(iterate 4 exact rfl);omega))|(focus ((with_reducible apply (oq_addE (k:=((1:Nat):Int))));exact rfl;exact rfl;omega))|((with_reducible apply oq_gtrF);exact rfl;exact rfl;omega)|((with_reducible apply oq_lssT);exact rfl;exact rfl;omega)|(apply oq_fn;exact rfl;first|exact trivial|(and_intros<;>omega)|omega|skip)|((with_reducible apply oq_loadAgg);exact rfl;exact rfl)|((with_reducible apply oq_call (hc:=Try.call142));exact rfl;exact rfl;exact fun D w1 hw1=>HV w1))|((with_reducible apply tl_id);first|(with_reducible apply tl_nil)|((with_reducible apply u_q);(iterate 4 exact rfl))|((with_reducible apply u_s0);exact rfl;exact rfl)|((with_reducible apply u_s);(iterate 3 exact rfl)))|((with_reducible apply os_id);first|((with_reducible apply os_x);exact rfl)|((with_reducible apply os_storeAgg);(iterate 5 exact rfl)))|((with_reducible apply ox_id);first|((with_reducible apply ox_alloc);exact rfl;intro _))|((with_reducible apply rd_id);first|(apply Rd.own;(repeat first|exact P0|apply P1);exact rfl;done))|((with_reducible apply t_id);first|(with_reducible apply t_seq)|(apply t_region;kernel_rfl)|((with_reducible apply t_condT);exact rfl)|((with_reducible apply t_condF);exact rfl)|(with_reducible apply t_skip)|(with_reducible apply t_block))|with_reducible apply q_thenN|with_reducible apply q_blockN|exact P0|exact Rdn.zero|apply Rdn.succ|((with_reducible apply Norm.nil);exact rfl)|((with_reducible apply Norm.cons);exact rfl)|exact Nat.le_of_ble_eq_true rfl)
     all_goals (refine ⟨1,by omega,by omega,?_,?_⟩<;>(try simp only [hnx])<;>(repeat' (first|exact FrSub.nil|(apply FrSub.cons;exact rfl)|exact HpSub.refl _|(apply HpSub.consE;(repeat first|exact P0|apply P1);first|exact rfl|(simp;done))|apply HpSub.skipX)))
 · have HV:=fun w1=>value_calls q hq x.al x.wh (by omega) (by omega) w1
   have hnx:crn q x 2=stp q (crn q x 1) x.al x.wh:=rfl
   obtain ⟨⟨pa,pw,pv⟩,hp⟩:∃ p,crn q x 1=p:=⟨_,rfl⟩
   obtain ⟨v,hv⟩:∃ v,vl q x.al x.wh=v:=⟨_,rfl⟩
   rw [hp] at hnx ⊢
   unfold stp at hnx
   rw [hv] at hnx HV
   simp only at hnx ⊢
   by_cases hlt:pv<v
   · rw [if_pos hlt] at hnx
     repeat' (first|((with_reducible apply oq_id);first|(focus ((with_reducible apply oq_indexAddrN (i:=1));(iterate 4 exact rfl);omega))|(focus ((with_reducible apply (oq_addE (k:=((2:Nat):Int))));exact rfl;exact rfl;omega))|((with_reducible apply oq_gtrT);exact rfl;exact rfl;omega)|((with_reducible apply oq_lssT);exact rfl;exact rfl;omega)|(apply oq_fn;exact rfl;first|exact trivial|(and_intros<;>omega)|omega|skip)|((with_reducible apply oq_loadAgg);exact rfl;exact rfl)|((with_reducible apply oq_call (hc:=Try.call142));exact rfl;exact rfl;exact fun D w1 hw1=>HV w1))|((with_reducible apply tl_id);first|(with_reducible apply tl_nil)|((with_reducible apply u_q);(iterate 4 exact rfl))|((with_reducible apply u_s0);exact rfl;exact rfl)|((with_reducible apply u_s);(iterate 3 exact rfl)))|((with_reducible apply os_id);first|((with_reducible apply os_x);exact rfl)|((with_reducible apply os_storeAgg);(iterate 5 exact rfl)))|((with_reducible apply ox_id);first|((with_reducible apply ox_alloc);exact rfl;intro _))|((with_reducible apply rd_id);first|(apply Rd.own;(repeat first|exact P0|apply P1);exact rfl;done))|((with_reducible apply t_id);first|(with_reducible apply t_seq)|(apply t_region;kernel_rfl)|((with_reducible apply t_condT);exact rfl)|(with_reducible apply t_skip)|(with_reducible apply t_block))|with_reducible apply q_thenN|with_reducible apply q_blockN|exact P0|(with_reducible apply P1)|exact Rdn.zero|apply Rdn.succ|((with_reducible apply Norm.nil);exact rfl)|((with_reducible apply Norm.cons);exact rfl)|exact Nat.le_of_ble_eq_true rfl)
     all_goals (refine ⟨2,by omega,by omega,?_,?_⟩<;>(try simp only [hnx])<;>(repeat' (first|exact FrSub.nil|(apply FrSub.cons;exact rfl)|exact HpSub.refl _|(apply HpSub.consE;(repeat first|exact P0|apply P1);first|exact rfl|(simp;done))|apply HpSub.skipX)))
   · rw [if_neg hlt] at hnx
     repeat' (first|((with_reducible apply oq_id);first|(focus ((with_reducible apply oq_indexAddrN (i:=1));(iterate 4 exact rfl);omega))|(focus ((with_reducible apply (oq_addE (k:=((2:Nat):Int))));exact rfl;exact rfl;omega))|((with_reducible apply oq_gtrF);exact rfl;exact rfl;omega)|((with_reducible apply oq_lssT);exact rfl;exact rfl;omega)|(apply oq_fn;exact rfl;first|exact trivial|(and_intros<;>omega)|omega|skip)|((with_reducible apply oq_loadAgg);exact rfl;exact rfl)|((with_reducible apply oq_call (hc:=Try.call142));exact rfl;exact rfl;exact fun D w1 hw1=>HV w1))|((with_reducible apply tl_id);first|(with_reducible apply tl_nil)|((with_reducible apply u_q);(iterate 4 exact rfl))|((with_reducible apply u_s0);exact rfl;exact rfl)|((with_reducible apply u_s);(iterate 3 exact rfl)))|((with_reducible apply os_id);first|((with_reducible apply os_x);exact rfl)|((with_reducible apply os_storeAgg);(iterate 5 exact rfl)))|((with_reducible apply ox_id);first|((with_reducible apply ox_alloc);exact rfl;intro _))|((with_reducible apply rd_id);first|(apply Rd.own;(repeat first|exact P0|apply P1);exact rfl;done))|((with_reducible apply t_id);first|(with_reducible apply t_seq)|(apply t_region;kernel_rfl)|((with_reducible apply t_condT);exact rfl)|((with_reducible apply t_condF);exact rfl)|(with_reducible apply t_skip)|(with_reducible apply t_block))|with_reducible apply q_thenN|with_reducible apply q_blockN|exact P0|exact Rdn.zero|apply Rdn.succ|((with_reducible apply Norm.nil);exact rfl)|((with_reducible apply Norm.cons);exact rfl)|exact Nat.le_of_ble_eq_true rfl)
     all_goals (refine ⟨2,by omega,by omega,?_,?_⟩<;>(try simp only [hnx])<;>(repeat' (first|exact FrSub.nil|(apply FrSub.cons;exact rfl)|exact HpSub.refl _|(apply HpSub.consE;(repeat first|exact P0|apply P1);first|exact rfl|(simp;done))|apply HpSub.skipX)))
 · have HV:=fun w1=>value_calls q hq x.ah x.wh (by omega) (by omega) w1
   have hnx:crn q x 3=stp q (crn q x 2) x.ah x.wh:=rfl
   obtain ⟨⟨pa,pw,pv⟩,hp⟩:∃ p,crn q x 2=p:=⟨_,rfl⟩
   obtain ⟨v,hv⟩:∃ v,vl q x.ah x.wh=v:=⟨_,rfl⟩
   rw [hp] at hnx ⊢
   unfold stp at hnx
   rw [hv] at hnx HV
   simp only at hnx ⊢
   by_cases hlt:pv<v
   · rw [if_pos hlt] at hnx
     repeat' (first|((with_reducible apply oq_id);first|(focus ((with_reducible apply oq_indexAddrN (i:=2));(iterate 4 exact rfl);omega))|(focus ((with_reducible apply (oq_addE (k:=((3:Nat):Int))));exact rfl;exact rfl;omega))|((with_reducible apply oq_gtrT);exact rfl;exact rfl;omega)|((with_reducible apply oq_lssT);exact rfl;exact rfl;omega)|(apply oq_fn;exact rfl;first|exact trivial|(and_intros<;>omega)|omega|skip)|((with_reducible apply oq_loadAgg);exact rfl;exact rfl)|((with_reducible apply oq_call (hc:=Try.call142));exact rfl;exact rfl;exact fun D w1 hw1=>HV w1))|((with_reducible apply tl_id);first|(with_reducible apply tl_nil)|((with_reducible apply u_q);(iterate 4 exact rfl))|((with_reducible apply u_s0);exact rfl;exact rfl)|((with_reducible apply u_s);(iterate 3 exact rfl)))|((with_reducible apply os_id);first|((with_reducible apply os_x);exact rfl)|((with_reducible apply os_storeAgg);(iterate 5 exact rfl)))|((with_reducible apply ox_id);first|((with_reducible apply ox_alloc);exact rfl;intro _))|((with_reducible apply rd_id);first|(apply Rd.own;(repeat first|exact P0|apply P1);exact rfl;done))|((with_reducible apply t_id);first|(with_reducible apply t_seq)|(apply t_region;kernel_rfl)|((with_reducible apply t_condT);exact rfl)|(with_reducible apply t_skip)|(with_reducible apply t_block))|with_reducible apply q_thenN|with_reducible apply q_blockN|exact P0|(with_reducible apply P1)|exact Rdn.zero|apply Rdn.succ|((with_reducible apply Norm.nil);exact rfl)|((with_reducible apply Norm.cons);exact rfl)|exact Nat.le_of_ble_eq_true rfl)
     all_goals (refine ⟨3,by omega,by omega,?_,?_⟩<;>(try simp only [hnx])<;>(repeat' (first|exact FrSub.nil|(apply FrSub.cons;exact rfl)|exact HpSub.refl _|(apply HpSub.consE;(repeat first|exact P0|apply P1);first|exact rfl|(simp;done))|apply HpSub.skipX)))
   · rw [if_neg hlt] at hnx
     repeat' (first|((with_reducible apply oq_id);first|(focus ((with_reducible apply oq_indexAddrN (i:=2));(iterate 4 exact rfl);omega))|(focus ((with_reducible apply (oq_addE (k:=((3:Nat):Int))));exact rfl;exact rfl;omega))|((with_reducible apply oq_gtrF);exact rfl;exact rfl;omega)|((with_reducible apply oq_lssT);exact rfl;exact rfl;omega)|(apply oq_fn;exact rfl;first|exact trivial|(and_intros<;>omega)|omega|skip)|((with_reducible apply oq_loadAgg);exact rfl;exact rfl)|((with_reducible apply oq_call (hc:=Try.call142));exact rfl;exact rfl;exact fun D w1 hw1=>HV w1))|((with_reducible apply tl_id);first|(with_reducible apply tl_nil)|((with_reducible apply u_q);(iterate 4 exact rfl))|((with_reducible apply u_s0);exact rfl;exact rfl)|((with_reducible apply u_s);(iterate 3 exact rfl)))|((with_reducible apply os_id);first|((with_reducible apply os_x);exact rfl)|((with_reducible apply os_storeAgg);(iterate 5 exact rfl)))|((with_reducible apply ox_id);first|((with_reducible apply ox_alloc);exact rfl;intro _))|((with_reducible apply rd_id);first|(apply Rd.own;(repeat first|exact P0|apply P1);exact rfl;done))|((with_reducible apply t_id);first|(with_reducible apply t_seq)|(apply t_region;kernel_rfl)|((with_reducible apply t_condT);exact rfl)|((with_reducible apply t_condF);exact rfl)|(with_reducible apply t_skip)|(with_reducible apply t_block))|with_reducible apply q_thenN|with_reducible apply q_blockN|exact P0|exact Rdn.zero|apply Rdn.succ|((with_reducible apply Norm.nil);exact rfl)|((with_reducible apply Norm.cons);exact rfl)|exact Nat.le_of_ble_eq_true rfl)
     all_goals (refine ⟨3,by omega,by omega,?_,?_⟩<;>(try simp only [hnx])<;>(repeat' (first|exact FrSub.nil|(apply FrSub.cons;exact rfl)|exact HpSub.refl _|(apply HpSub.consE;(repeat first|exact P0|apply P1);first|exact rfl|(simp;done))|apply HpSub.skipX)))
theorem limited_calls (q:Int×Int×Int) (w:World):Calls Try.prog 105 #[.agg #[.int .i64 q.1,.int .i64 q.2.1,.int .i64 q.2.2]] w fun e w'=>e=.returned (.bool (LimB q))∧Ext w w':=by
 have H1:=fun w1=>ranged_calls q.1 (-1000) 1000 w1
 have H2:=fun w1=>ranged_calls q.2.1 (-1000) 1000 w1
 have H3:=fun w1=>ranged_calls q.2.2 (-1000000000000000000) 1000000000000000000 w1
 unfold LimB
 obtain ⟨b1,e1⟩:∃ b,decide (-1000≤q.1∧q.1≤1000)=b:=⟨_,rfl⟩
 obtain ⟨b2,e2⟩:∃ b,decide (-1000≤q.2.1∧q.2.1≤1000)=b:=⟨_,rfl⟩
 obtain ⟨b3,e3⟩:∃ b,decide (-1000000000000000000≤q.2.2∧q.2.2≤1000000000000000000)=b:=⟨_,rfl⟩
 rw [e1] at H1 ⊢
 rw [e2] at H2 ⊢
 rw [e3] at H3 ⊢
 refine enterQ (c:=cx w 16) Try.func105 rfl rfl rfl rfl ?_
 cases b1
 · repeat' (first|((with_reducible apply oq_id);first|(apply oq_fn;exact rfl;first|exact trivial|(and_intros<;>omega)|omega|skip)|((with_reducible apply oq_load);exact rfl;exact rfl)|((with_reducible apply oq_call (hc:=Try.call141));exact rfl;exact rfl;exact fun D w1 hw1=>H1 w1))|((with_reducible apply tl_id);first|(with_reducible apply tl_nil)|((with_reducible apply u_q);(iterate 4 exact rfl))|((with_reducible apply u_s);(iterate 3 exact rfl))|((with_reducible apply u_skip);(iterate 3 exact rfl)))|((with_reducible apply os_id);first|((with_reducible apply os_x);exact rfl))|((with_reducible apply ox_id);first|((with_reducible apply ox_boxAgg);exact rfl;intro _))|((with_reducible apply rd_id);first|(apply Rd.own;(repeat first|exact P0|apply P1);exact rfl;done))|((with_reducible apply t_id);first|(with_reducible apply t_seq)|(apply t_region;kernel_rfl)|(with_reducible apply t_ret))|with_reducible apply q_thenN|(with_reducible apply end_ret)|exact rvs_nil|(with_reducible apply rvs_cons)|((with_reducible apply rv_tmp);exact rfl))
   all_goals rfl
 · cases b2
   · repeat' (first|((with_reducible apply oq_id);first|(apply oq_fn;exact rfl;first|exact trivial|(and_intros<;>omega)|omega|skip)|((with_reducible apply oq_load);exact rfl;exact rfl)|((with_reducible apply oq_call (hc:=Try.call141));exact rfl;exact rfl;exact fun D w1 hw1=>H1 w1)|((with_reducible apply oq_call (hc:=Try.call141));exact rfl;exact rfl;exact fun D w1 hw1=>H2 w1))|((with_reducible apply tl_id);first|(with_reducible apply tl_nil)|((with_reducible apply u_q);(iterate 4 exact rfl))|((with_reducible apply u_s);(iterate 3 exact rfl))|((with_reducible apply u_skip);(iterate 3 exact rfl)))|((with_reducible apply os_id);first|((with_reducible apply os_x);exact rfl))|((with_reducible apply ox_id);first|((with_reducible apply ox_boxAgg);exact rfl;intro _))|((with_reducible apply rd_id);first|(apply Rd.own;(repeat first|exact P0|apply P1);exact rfl;done))|((with_reducible apply t_id);first|(with_reducible apply t_seq)|(apply t_region;kernel_rfl)|(with_reducible apply t_ret))|with_reducible apply q_thenN|(with_reducible apply end_ret)|exact rvs_nil|(with_reducible apply rvs_cons)|((with_reducible apply rv_tmp);exact rfl))
     all_goals rfl
   · repeat' (first|((with_reducible apply oq_id);first|(apply oq_fn;exact rfl;first|exact trivial|(and_intros<;>omega)|omega|skip)|((with_reducible apply oq_load);exact rfl;exact rfl)|((with_reducible apply oq_call (hc:=Try.call141));exact rfl;exact rfl;exact fun D w1 hw1=>H1 w1)|((with_reducible apply oq_call (hc:=Try.call141));exact rfl;exact rfl;exact fun D w1 hw1=>H2 w1)|((with_reducible apply oq_call (hc:=Try.call141));exact rfl;exact rfl;exact fun D w1 hw1=>H3 w1))|((with_reducible apply tl_id);first|(with_reducible apply tl_nil)|((with_reducible apply u_q);(iterate 4 exact rfl))|((with_reducible apply u_s);(iterate 3 exact rfl)))|((with_reducible apply os_id);first|((with_reducible apply os_x);exact rfl))|((with_reducible apply ox_id);first|((with_reducible apply ox_boxAgg);exact rfl;intro _))|((with_reducible apply rd_id);first|(apply Rd.own;(repeat first|exact P0|apply P1);exact rfl;done))|((with_reducible apply t_id);first|(with_reducible apply t_seq)|(apply t_region;kernel_rfl)|(with_reducible apply t_ret))|with_reducible apply q_thenN|(with_reducible apply end_ret)|exact rvs_nil|(with_reducible apply rvs_cons)|((with_reducible apply rv_tmp);exact rfl))
     all_goals (cases b3<;>rfl)
theorem oq_makeFuncB {c:Cx} {F:Fr} {H:Hp} {d:Option Tmp} {ty:TypeId} {pos:String} {af:Array Edge} {g:Option (Nat×Bool)} {fn:Fn} {fst:Array Operand} {vs:List Value} (hc:evs F fst.toList=some vs):OQ c ⟨d,.makeFunc fn fst #[],ty,pos,af,g⟩ F H (.func fn vs.toArray #[]):=OQ.of fun D a w ha _=>by
 have:=ha.evs hc
 have h2:fst.map a=vs.toArray:=by rw [← this];cases fst;simp
 simp [execOp,Instr.makeFunc,go_sem,h2]
def ptC (q:Int×Int×Int) (x:Ld):List Value:=[.int .i64 (crn q x 3).1,.int .i64 (crn q x 3).2.1]
abbrev ptsC (q:Int×Int×Int) (l:List Ld):List Value:=(l.map (ptC q)).flatten
theorem ptsC_len (q:Int×Int×Int) (l:List Ld):(ptsC q l).length=l.length*2:=flat_len (s:=2) (fun _=>rfl) l
theorem ptsC_snoc (q:Int×Int×Int) {l:List Ld} {k:Nat} {x:Ld} (h:l[k]?=some x):ptsC q (l.take (k+1))=ptsC q (l.take k)++[.int .i64 (crn q x 3).1,.int .i64 (crn q x 3).2.1]:=by
 rw [List.take_add_one,h]
 simp only [ptsC,Option.toList_some,List.map_append,List.map_cons,List.map_nil,List.flatten_append,List.flatten_cons,List.flatten_nil,List.append_nil]
 rfl
theorem hL_small {q:Int×Int×Int} (hq:LimOk q) {x:Ld} (hx:x.Ok) : -21475910221824000≤hL ⟨q.1,q.2.1⟩ x∧hL ⟨q.1,q.2.1⟩ x≤21475910221824000:=by
 have a0:=hx.a0
 have a1:=hx.a1
 have a2:=hx.a2
 have w0:=hx.w0
 have w1:=hx.w1
 have w2:=hx.w2
 have k1:=vl_bd hq (a:=x.al) (w:=x.wl) (by omega) (by omega)
 have k2:=vl_bd hq (a:=x.ah) (w:=x.wl) (by omega) (by omega)
 have k3:=vl_bd hq (a:=x.al) (w:=x.wh) (by omega) (by omega)
 have k4:=vl_bd hq (a:=x.ah) (w:=x.wh) (by omega) (by omega)
 unfold vl at k1 k2 k3 k4
 unfold hL
 simp only [dot_pt]
 omega
theorem worst_P (A:Option Addr) (n c:Nat) (l:List Ld) (hn:n≤40) (hok:∀ x∈l,x.Ok) (q:Int×Int×Int) (hq:LimOk q) (w:World) (hr:RdS w 4 A n (l.map ldCells)):Calls Try.prog 106 #[.slice A n c,.func (.func 107) #[.agg #[.int .i64 q.1,.int .i64 q.2.1,.int .i64 q.2.2]] #[]] w fun e w'=>∃ v H',e=.returned v∧(∃ u,v=.tuple #[.int .i64 (hS ⟨q.1,q.2.1⟩ l),u]∧H'=[])∧Has w ⟨[],[]⟩ H' w':=by
 have hl:l.length=n:=by have:=hr.len;rwa [List.length_map] at this
 refine enterF (c:=cx w 34) Try.func106 rfl rfl rfl rfl ?_
 refine t_cut (ι:=Unit) (fun _=>[(0,.slice A n c),(1,.func (.func 107) #[.agg #[.int .i64 q.1,.int .i64 q.2.1,.int .i64 q.2.2]] #[])]) (fun _=>([]:Hp)) (fun _=>True) ?_ ?_
 · repeat' (first|((with_reducible apply oq_id);first|(apply oq_fn;exact rfl;first|exact trivial|(and_intros<;>omega)|omega|skip))|((with_reducible apply tl_id);first|(with_reducible apply tl_nil)|((with_reducible apply u_q);(iterate 4 exact rfl)))|((with_reducible apply t_id);first|(apply t_region;kernel_rfl)))
   all_goals exact ⟨by trivial,(),trivial,by (repeat' (first|exact FrSub.nil|(apply FrSub.cons;exact rfl))),by (repeat' (first|exact HpSub.refl _))⟩
 rintro ⟨⟩ -
 try dsimp only
 refine t_cut (ι:=Unit) (fun _=>[(0,.slice A n c),(1,.func (.func 107) #[.agg #[.int .i64 q.1,.int .i64 q.2.1,.int .i64 q.2.2]] #[]),(6,.int .i64 0)]) (fun _=>([]:Hp)) (fun _=>True) ?_ ?_
 · repeat' (first|((with_reducible apply oq_id);first|(apply oq_fn;exact rfl;first|exact trivial|(and_intros<;>omega)|omega|skip))|((with_reducible apply tl_id);first|(with_reducible apply tl_nil)|((with_reducible apply u_q);(iterate 4 exact rfl)))|((with_reducible apply t_id);first|(apply t_region;kernel_rfl)))
   all_goals exact ⟨by trivial,(),trivial,by (repeat' (first|exact FrSub.nil|(apply FrSub.cons;exact rfl))),by (repeat' (first|exact HpSub.refl _))⟩
 rintro ⟨⟩ -
 try dsimp only
 refine t_cut (ι:=Unit) (fun _=>[(0,.slice A n c),(1,.func (.func 107) #[.agg #[.int .i64 q.1,.int .i64 q.2.1,.int .i64 q.2.2]] #[]),(6,.int .i64 0),(7,.slice none 0 0)]) (fun _=>([]:Hp)) (fun _=>True) ?_ ?_
 · repeat' (first|((with_reducible apply oq_id);first|(apply oq_fn;exact rfl;first|exact trivial|(and_intros<;>omega)|omega|skip))|((with_reducible apply tl_id);first|(with_reducible apply tl_nil)|((with_reducible apply u_q);(iterate 4 exact rfl)))|((with_reducible apply t_id);first|(apply t_region;kernel_rfl)))
   all_goals exact ⟨by trivial,(),trivial,by (repeat' (first|exact FrSub.nil|(apply FrSub.cons;exact rfl))),by (repeat' (first|exact HpSub.refl _))⟩
 rintro ⟨⟩ -
 try dsimp only
 (with_reducible apply t_seq)
 refine t_cut (ι:=Unit) (fun _=>[(1,.func (.func 107) #[.agg #[.int .i64 q.1,.int .i64 q.2.1,.int .i64 q.2.2]] #[]),(6,.int .i64 0),(7,.slice none 0 0),(12,.slice A n c),(13,.int .i64 ((n:Nat):Int)),(14,.int .i64 ((0:Nat):Int))]) (fun _=>([]:Hp)) (fun _=>True) ?_ ?_
 · repeat' (first|((with_reducible apply oq_id);first|(apply oq_fn;exact rfl;first|exact trivial|(and_intros<;>omega)|omega|skip))|((with_reducible apply tl_id);first|(with_reducible apply tl_nil)|((with_reducible apply u_q);(iterate 4 exact rfl)))|((with_reducible apply t_id);first|(apply t_region;kernel_rfl)))
   all_goals exact ⟨by trivial,(),trivial,by (repeat' (first|exact FrSub.nil|(apply FrSub.cons;exact rfl))),by (repeat' (first|exact HpSub.refl _))⟩
 rintro ⟨⟩ -
 try dsimp only
 (with_reducible apply t_block)
 apply t_loopP (ι:=Nat×Option (Nat×Nat)) [1,4,5,12,13,32,33] (fun z=>[(14,.int .i64 ((z.1:Nat):Int)),(6,.int .i64 ((l.take (z.1)).map (hL ⟨q.1,q.2.1⟩)).sum),(7,.slice (clA z.2) z.1 (clC z.2))]) (fun z=>clH 228 2 (ptsC q (l.take z.1)) z.2) (fun z=>z.1≤n∧(z.2=none→z.1=0)) (fun z=>n-z.1) ((0,none))
 (repeat (first|exact KeepF.nil|(apply KeepF.cons;exact rfl)|apply KeepF.skip))
 (repeat first|exact FrSub.nil|(apply FrSub.cons;exact rfl))
 (try simp only [List.cons_append,List.nil_append])
 (repeat' (first|exact HpSub.refl _))
 · exact ⟨Nat.zero_le _,fun _=>rfl⟩
 rintro ⟨i,o⟩ ⟨hi,ho⟩
 simp only at hi ho
 try simp only [List.cons_append,List.nil_append]
 by_cases hlt:i<n
 rotate_left
 · obtain rfl:i=n:=by omega
   have hS:((l.take i).map (hL ⟨q.1,q.2.1⟩)).sum=hS ⟨q.1,q.2.1⟩ l:=by rw [← hl,List.take_length];rfl
   rw [hS]
   repeat' (first|((with_reducible apply oq_id);first|((with_reducible apply oq_lssF);exact rfl;exact rfl;omega)|(apply oq_fn;exact rfl;first|exact trivial|(and_intros<;>omega)|omega|skip))|((with_reducible apply tl_id);first|(with_reducible apply tl_nil)|((with_reducible apply u_q);(iterate 4 exact rfl)))|((with_reducible apply t_id);first|(with_reducible apply t_seq)|(apply t_region;kernel_rfl)|((with_reducible apply t_condF);exact rfl)|(with_reducible apply t_ret)|(with_reducible apply t_exit))|with_reducible apply q_thenN|with_reducible apply q_thenE|((with_reducible apply q_blockE);exact rfl)|(with_reducible apply end_ret)|exact rvs_nil|(with_reducible apply rvs_cons)|((with_reducible apply rv_tmp);exact rfl))
   all_goals exact ⟨_,⟨_,rfl,rfl⟩,HpSub.nil⟩
 obtain ⟨B,O,x,rfl,hx,c0,c1,c2,c3⟩:=ld_row hr hlt
 have HC:=fun w1=>corner_calls q hq x (hok x (List.mem_of_getElem? hx)) w1
 rw [crn_v] at HC
 have hb:∀ x∈l,-21475910221824000≤hL ⟨q.1,q.2.1⟩ x∧hL ⟨q.1,q.2.1⟩ x≤21475910221824000:=fun x hx=>hL_small hq (hok x hx)
 have hs1:=sumI_bd hb (i+1) (by omega)
 have hs2:=sumI_bd hb i (by omega)
 have e1:=sumI_take (f:=hL ⟨q.1,q.2.1⟩) hx
 have ep:=ptsC_snoc q hx
 have hfl:=ptsC_len q (l.take i)
 rw [List.length_take,Nat.min_eq_left (by omega)] at hfl
 obtain ⟨S1,hS1⟩:∃ s,((l.take (i+1)).map (hL ⟨q.1,q.2.1⟩)).sum=s:=⟨_,rfl⟩
 obtain ⟨S2,hS2⟩:∃ s,((l.take (i)).map (hL ⟨q.1,q.2.1⟩)).sum=s:=⟨_,rfl⟩
 obtain ⟨S3,hS3⟩:∃ s,hL ⟨q.1,q.2.1⟩ x=s:=⟨_,rfl⟩
 obtain ⟨C1,hC1⟩:∃ s,ptsC q (l.take (i+1))=s:=⟨_,rfl⟩
 obtain ⟨C2,hC2⟩:∃ s,ptsC q (l.take i)=s:=⟨_,rfl⟩
 rw [hS1] at hs1 e1
 rw [hS2] at hs2 e1
 rw [hS3] at e1 HC
 rw [hC1,hC2] at ep
 rw [hC2] at hfl
 simp only [hS2,hC2]
 rcases o with _|⟨g,cp⟩
 · obtain rfl:=ho rfl
   have hC0:C2=[]:=by rw [← hC2];rfl
   subst hC0
   simp only [clA,clC,clH]
   repeat' (first|((with_reducible apply oq_id);first|(focus ((with_reducible apply oq_indexAddrN);(iterate 4 exact rfl);omega))|(focus ((with_reducible apply (oq_addE (k:=S1)));exact rfl;exact rfl;omega))|((with_reducible apply oq_lssT);exact rfl;exact rfl;omega)|(apply oq_fn;exact rfl;first|exact trivial|(and_intros<;>omega)|omega|skip)|((with_reducible apply oq_loadAgg);exact rfl;exact rfl)|((with_reducible apply oq_call (hc:=Try.call107));exact rfl;exact rfl;exact fun D w1 hw1=>HC w1))|((with_reducible apply tl_id);first|(with_reducible apply tl_nil)|((with_reducible apply u_q);(iterate 4 exact rfl))|((with_reducible apply u_s0);exact rfl;exact rfl)|((with_reducible apply u_s);(iterate 3 exact rfl)))|((with_reducible apply os_id);first|((with_reducible apply os_x);exact rfl)|((with_reducible apply os_storeAgg);(iterate 5 exact rfl))|((with_reducible apply os_appendNil (hk:=app_ok108));exact rfl;exact rfl))|((with_reducible apply ox_id);first|((with_reducible apply ox_alloc);exact rfl;intro _)|((with_reducible apply ox_buildSlice2);(iterate 6 exact rfl);intro _))|((with_reducible apply rd_id);first|(apply Rd.own;(repeat first|exact P0|apply P1);exact rfl;done)|(apply Rd.old;(first|(with_reducible assumption)|exact c0|exact c1|exact c2|exact c3|exact c4|exact c5|exact c6|exact c7|exact c8|exact d0|exact d1|exact d2|exact d3|exact d4|exact d5);first|exact List.not_mem_nil|exact m0|exact m1|exact m2|exact m3|exact m4|exact m5|exact m6|exact m7|exact m8|exact m9))|((with_reducible apply t_id);first|(with_reducible apply t_seq)|(apply t_region;kernel_rfl)|((with_reducible apply t_condT);exact rfl)|(with_reducible apply t_skip)|(with_reducible apply t_block))|with_reducible apply q_thenN|with_reducible apply q_blockN|exact P0|exact Rdn.zero|apply Rdn.succ|((with_reducible apply Norm.nil);exact rfl)|((with_reducible apply Norm.cons);exact rfl)|(intro gN cN;with_reducible apply tl_id)|exact Nat.le_of_ble_eq_true rfl|exact (rfl:(_:Bool)=true))
   all_goals (refine ⟨(1,some (gN,cN)),⟨by simp only;omega,fun h=>nomatch h⟩,by simp only;omega,?_,?_⟩<;>(simp only [clA,clC,clH])<;>(try rw [hS1])<;>(try rw [hC1,ep])<;>(repeat' (first|exact FrSub.nil|(apply FrSub.cons;exact rfl)|exact HpSub.refl _|(apply HpSub.consE;(repeat first|exact P0|apply P1);first|exact rfl|(simp only [List.nil_append];done))|apply HpSub.skipX)))
 · simp only [clA,clC,clH]
   repeat' (first|((with_reducible apply oq_id);first|(focus ((with_reducible apply oq_indexAddrN);(iterate 4 exact rfl);omega))|(focus ((with_reducible apply (oq_addE (k:=((i+1:Nat):Int))));exact rfl;exact rfl;omega))|(focus ((with_reducible apply (oq_addE (k:=S1)));exact rfl;exact rfl;omega))|((with_reducible apply oq_lssT);exact rfl;exact rfl;omega)|(apply oq_fn;exact rfl;first|exact trivial|(and_intros<;>omega)|omega|skip)|((with_reducible apply oq_loadAgg);exact rfl;exact rfl)|((with_reducible apply oq_call (hc:=Try.call107));exact rfl;exact rfl;exact fun D w1 hw1=>HC w1))|((with_reducible apply tl_id);first|(with_reducible apply tl_nil)|((with_reducible apply u_q);(iterate 4 exact rfl))|((with_reducible apply u_s0);exact rfl;exact rfl)|((with_reducible apply u_s);(iterate 3 exact rfl)))|((with_reducible apply os_id);first|((with_reducible apply os_x);exact rfl)|((with_reducible apply os_storeAgg);(iterate 5 exact rfl))|((with_reducible apply os_append (hk:=app_ok108));exact rfl;exact rfl;(repeat first|exact P0|apply P1)))|((with_reducible apply ox_id);first|((with_reducible apply ox_alloc);exact rfl;intro _)|((with_reducible apply ox_buildSlice2);(iterate 6 exact rfl);intro _))|((with_reducible apply rd_id);first|(apply Rd.own;(repeat first|exact P0|apply P1);exact rfl;done)|(apply Rd.old;(first|(with_reducible assumption)|exact c0|exact c1|exact c2|exact c3|exact c4|exact c5|exact c6|exact c7|exact c8|exact d0|exact d1|exact d2|exact d3|exact d4|exact d5);first|exact List.not_mem_nil|exact m0|exact m1|exact m2|exact m3|exact m4|exact m5|exact m6|exact m7|exact m8|exact m9))|((with_reducible apply t_id);first|(with_reducible apply t_seq)|(apply t_region;kernel_rfl)|((with_reducible apply t_condT);exact rfl)|(with_reducible apply t_skip)|(with_reducible apply t_block))|with_reducible apply q_thenN|with_reducible apply q_blockN|exact P0|exact Rdn.zero|apply Rdn.succ|((with_reducible apply Norm.nil);exact rfl)|((with_reducible apply Norm.cons);exact rfl)|exact hfl|(intro gN cN;with_reducible apply tl_id)|exact Nat.le_of_ble_eq_true rfl|exact (rfl:(_:Bool)=true)|omega)
   all_goals (refine ⟨(i+1,some (gN,cN)),⟨by simp only;omega,fun h=>nomatch h⟩,by simp only;omega,?_,?_⟩<;>(simp only [clA,clC,clH])<;>(try rw [hS1])<;>(try rw [hC1,ep])<;>(repeat' (first|exact FrSub.nil|(apply FrSub.cons;exact rfl)|exact HpSub.refl _|(apply HpSub.consE;(repeat first|exact P0|apply P1);first|exact rfl|(simp only [List.nil_append];done))|apply HpSub.skipX)))
def worE (q:Int×Int×Int):Int:=if LimB q=true then 0 else 41
theorem worstN_P (A:Option Addr) (n c:Nat) (l:List Ld) (h0:chkE l=0) (q:Int×Int×Int) (w:World) (hr:RdS w 4 A n (l.map ldCells)):Calls Try.prog 43 #[.slice A n c,.agg #[.int .i64 q.1,.int .i64 q.2.1,.int .i64 q.2.2]] w fun e w'=>∃ v H',e=.returned v∧(∃ s u,v=.tuple #[.int .i64 s,u,.int .i64 (worE q)]∧(worE q=0→s=hS ⟨q.1,q.2.1⟩ l)∧H'=[])∧Has w ⟨[],[]⟩ H' w':=by
 have hl:l.length=n:=by have:=hr.len;rwa [List.length_map] at this
 obtain ⟨h40,hok⟩:=chkE_0 h0
 have H1:=fun w1 (e:Ext w w1)=>checkLoads_calls A n c l (by omega) w1 (hr.ext e)
 rw [h0] at H1
 have HB:=fun w1=>limited_calls q w1
 obtain ⟨bv,hbv⟩:∃ b,LimB q=b:=⟨_,rfl⟩
 obtain ⟨ev,hev⟩:∃ e,worE q=e:=⟨_,rfl⟩
 have hev2:=hev
 unfold worE at hev2
 rw [hbv] at HB hev2
 rw [hev]
 cases bv
 · obtain rfl:ev=41:=by rw [← hev2];rfl
   refine enterF (c:=cx w 26) Try.func43 rfl rfl rfl rfl ?_
   repeat' (first|((with_reducible apply oq_id);first|((with_reducible apply oq_neqF);exact rfl;exact rfl;omega)|(apply oq_fn;exact rfl;first|exact trivial|(and_intros<;>omega)|omega|skip)|((with_reducible apply oq_loadAgg);exact rfl;exact rfl)|((with_reducible apply oq_call (hc:=Try.call39));exact rfl;exact rfl;exact fun D w1 hw1=>H1 w1 hw1.ext.ext)|((with_reducible apply oq_call (hc:=Try.call105));exact rfl;exact rfl;exact fun D w1 hw1=>HB w1))|((with_reducible apply tl_id);first|(with_reducible apply tl_nil)|((with_reducible apply u_q);(iterate 4 exact rfl))|((with_reducible apply u_s);(iterate 3 exact rfl)))|((with_reducible apply os_id);first|((with_reducible apply os_x);exact rfl))|((with_reducible apply ox_id);first|((with_reducible apply ox_boxAgg);exact rfl;intro _))|((with_reducible apply rd_id);first|(apply Rd.own;(repeat first|exact P0|apply P1);exact rfl;done))|((with_reducible apply t_id);first|(with_reducible apply t_seq)|(apply t_region;kernel_rfl)|((with_reducible apply t_condT);exact rfl)|((with_reducible apply t_condF);exact rfl)|(with_reducible apply t_ret)|(with_reducible apply t_skip))|with_reducible apply q_thenN|with_reducible apply q_thenR|exact Rdn.zero|apply Rdn.succ|(with_reducible apply end_ret)|exact rvs_nil|(with_reducible apply rvs_cons)|((with_reducible apply rv_tmp);exact rfl))
   all_goals exact ⟨_,⟨_,_,rfl,(fun h=>nomatch h),rfl⟩,HpSub.nil⟩
 · obtain rfl:ev=0:=by rw [← hev2];rfl
   have hq:=limB_ok hbv
   refine enterF (c:=cx w 26) Try.func43 rfl rfl rfl rfl ?_
   repeat' (first|((with_reducible apply oq_id);first|((with_reducible apply oq_makeFuncB);exact rfl)|((with_reducible apply oq_neqF);exact rfl;exact rfl;omega)|(apply oq_fn;exact rfl;first|exact trivial|(and_intros<;>omega)|omega|skip)|((with_reducible apply oq_loadAgg);exact rfl;exact rfl)|((with_reducible apply oq_call (hc:=Try.call39));exact rfl;exact rfl;exact fun D w1 hw1=>H1 w1 hw1.ext.ext)|((with_reducible apply oq_call (hc:=Try.call105));exact rfl;exact rfl;exact fun D w1 hw1=>HB w1)|((with_reducible apply oq_build);(iterate 3 exact rfl)))|((with_reducible apply tl_id);first|(with_reducible apply tl_nil)|((with_reducible apply u_s);(iterate 3 exact rfl);(with_reducible apply os_callF (PV:=fun v H'=>∃ u,v=.tuple #[.int .i64 (hS ⟨q.1,q.2.1⟩ l),u]∧H'=[]) (hc:=Try.call106));exact rfl;exact rfl;exact fun D w1 hw1=>worst_P A n c l (by omega) hok q hq w1 (hr.ext hw1.ext.ext);rintro _ _ ⟨u,rfl,rfl⟩;simp only [List.cons_append,List.nil_append])|((with_reducible apply u_q);(iterate 4 exact rfl))|((with_reducible apply u_s);(iterate 3 exact rfl)))|((with_reducible apply os_id);first|((with_reducible apply os_x);exact rfl))|((with_reducible apply ox_id);first|((with_reducible apply ox_boxAgg);exact rfl;intro _))|((with_reducible apply rd_id);first|(apply Rd.own;(repeat first|exact P0|apply P1);exact rfl;done))|((with_reducible apply t_id);first|(with_reducible apply t_seq)|(apply t_region;kernel_rfl)|((with_reducible apply t_condF);exact rfl)|(with_reducible apply t_ret)|(with_reducible apply t_skip))|with_reducible apply q_thenN|exact Rdn.zero|apply Rdn.succ|((with_reducible apply Norm.nil);exact rfl)|((with_reducible apply Norm.cons);exact rfl)|(with_reducible apply end_ret)|exact rvs_nil|(with_reducible apply rvs_cons)|((with_reducible apply rv_tmp);exact rfl))
   all_goals exact ⟨_,⟨_,_,rfl,(fun _=>rfl),rfl⟩,HpSub.nil⟩
end Go.Proofs.Ytcjkndjjbjoehaa
