/- A part of the proof: rules for walks, and contracts of functions (6). -/
import Derived.Test.YtcjkndjjbjoehaaXTrE
import Derived.Test.YtcjkndjjbjoehaaXTrB
import Derived.Test.YtcjkndjjbjoehaaXTrC
import Derived.Test.YtcjkndjjbjoehaaXTrA
import Derived.Laws.MakeOwn
set_option linter.unusedVariables false
set_option linter.unusedSimpArgs false
set_option maxRecDepth 100000
set_option maxHeartbeats 2000000
namespace Go.Proofs.Ytcjkndjjbjoehaa
open Go.RowKit
attribute [local irreducible] OQ OS OX Rd T TL GX GL AL AI RV wpG SAny Calls
theorem hull_P (p:Addr) (n c:Nat) (L:List Pv) (w:World) (hr:RdS w 2 (some p) n (L.map (coC Pv.x Pv.y))) (hl:L.length=n) (h1:1≤n) (hn:n<50) (hb:∀ q∈L,Bd 536870912 q) :
   Calls Try.prog 137 #[.slice (some p) n c] w fun e w'=>∃ v H',e=.returned v∧(∃ g cp Bq,Bq.Pairwise (fun a b=>ltP a b=true)∧(∀ q,q∈Bq↔q∈L)∧v=.slice (some ⟨g,0,none⟩) (hulI Bq).length cp∧H'=[(g,coB Pv.x Pv.y (hulI Bq),some (111,2,cp))])∧Has w ⟨[],[]⟩ H' w':=by
 refine enterF (c:=cx w 24) Try.func137 rfl rfl rfl rfl ?_
 refine t_cut (ι:=Unit) (fun _=>[(0,.slice (some p) n c)]) (fun _=>([]:Hp)) (fun _=>True) ?_ ?_
 · repeat' (first|((with_reducible apply oq_id);first|(apply oq_fn;exact rfl;first|exact trivial|(and_intros<;>omega)|omega|skip))|((with_reducible apply tl_id);first|(with_reducible apply tl_nil)|((with_reducible apply u_q);(iterate 4 exact rfl)))|((with_reducible apply t_id);first|(apply t_region;kernel_rfl)))
   all_goals exact ⟨by trivial,(),trivial,by (repeat' (first|exact FrSub.nil|(apply FrSub.cons;exact rfl))),by (repeat' (first|exact HpSub.refl _))⟩
 rintro ⟨⟩ -
 try dsimp only
 refine t_cut (ι:=Nat×Nat×Nat) (fun z=>[(3,.pointer (some ⟨z.1,0,none⟩))]) (fun z=>[(z.1,[.slice (some ⟨z.2.1,0,none⟩) n z.2.2],some (101,1,1)),(z.2.1,coB Pv.x Pv.y L,some (111,2,z.2.2))]) (fun _=>True) ?_ ?_
 · repeat' (first|((with_reducible apply oq_id);first|(apply oq_fn;exact rfl;first|exact trivial|(and_intros<;>omega)|omega|skip))|((with_reducible apply tl_id);first|(with_reducible apply tl_nil)|((with_reducible apply u_s);(iterate 3 exact rfl);(with_reducible apply os_callF (PV:=fun v H'=>∃ g cp,v=.slice (some ⟨g,0,none⟩) n cp∧H'=[(g,coB Pv.x Pv.y L,some (111,2,cp))]) (hc:=Try.call161));exact rfl;exact rfl;exact fun D w1 hw1=>clone_P p n c L w1 (hr.ext hw1.ext.ext) (by omega);rintro _ _ ⟨g,cp,rfl,rfl⟩;simp only [List.cons_append,List.nil_append])|((with_reducible apply u_q);(iterate 4 exact rfl))|((with_reducible apply u_s0);exact rfl;exact rfl)|((with_reducible apply u_s);(iterate 3 exact rfl)))|((with_reducible apply os_id);first|((with_reducible apply os_x);exact rfl)|((with_reducible apply os_store);(iterate 4 exact rfl)))|((with_reducible apply ox_id);first|((with_reducible apply ox_alloc);exact rfl;intro _))|((with_reducible apply t_id);first|(apply t_region;kernel_rfl))|exact P0|((with_reducible apply Norm.nil);exact rfl)|((with_reducible apply Norm.cons);exact rfl)|exact Nat.le_of_ble_eq_true rfl)
   all_goals exact ⟨by trivial,(_,g,cp),trivial,by (repeat' (first|exact FrSub.nil|(apply FrSub.cons;exact rfl))),by (repeat' (first|exact HpSub.refl _))⟩
 rintro ⟨sb,g,cp⟩ -
 try dsimp only
 refine t_cut (ι:=List Pv) (fun _=>[(3,.pointer (some ⟨sb,0,none⟩))]) (fun W=>[(sb,[.slice (some ⟨g,0,none⟩) n cp],some (101,1,1)),(g,coB Pv.x Pv.y (W),some (111,2,cp))]) (fun W=>Srt ltP W∧W.Perm L) ?_ ?_
 · repeat' (first|((with_reducible apply oq_id);first|((with_reducible apply oq_load);exact rfl;exact rfl))|((with_reducible apply tl_id);first|(with_reducible apply tl_nil)|((with_reducible apply u_s);(iterate 3 exact rfl);(with_reducible apply os_callM (PV:=fun v H1=>(v=.tuple #[]∧∃ W,Srt ltP W∧W.Perm L∧H1=[(g,coB Pv.x Pv.y (W),some (111,2,cp))])) (G:=[(g,coB Pv.x Pv.y (L),some (111,2,cp))]) (R:=[(sb,[.slice (some ⟨g,0,none⟩) n cp],some (101,1,1))]) (hc:=Try.call162));exact rfl;exact rfl;(repeat (first|exact HpSub.refl _|(apply HpSub.consE;(repeat first|exact P0|apply P1);exact rfl)|apply HpSub.skipX|apply HpSub.skipX|exact HpSub.nil));exact fun D w1 hw1 hg1=>sortF_M woP cmpP g cp n L w1 hg1 hl hn;rintro _ _ ⟨rfl,W,hW1,hW2,rfl⟩;(try simp only [List.cons_append,List.nil_append,List.append_nil]))|((with_reducible apply u_q);(iterate 4 exact rfl)))|((with_reducible apply rd_id);first|(apply Rd.own;(repeat first|exact P0|apply P1);exact rfl;done))|((with_reducible apply t_id);first|(apply t_region;kernel_rfl)))
   all_goals exact ⟨by trivial,W,⟨hW1,hW2⟩,by (repeat' (first|exact FrSub.nil|(apply FrSub.cons;exact rfl))),by (repeat' (first|exact HpSub.refl _|(apply HpSub.consE;(repeat first|exact P0|apply P1);first|exact rfl|(simp;done))))⟩
 rintro W ⟨hW1,hW2⟩
 try dsimp only
 have hWn:W.length=n:=by rw [hW2.length_eq,hl]
 refine t_fact (P:=n≤cp) (fun M w hw=>by
   have:=(hw.blkP (b:=g) (C:=coB Pv.x Pv.y W) (by (repeat first|exact P0|apply P1))).cap (by decide)
   omega) fun hcp=>?_
 obtain ⟨hD1,hD2⟩:=dd_ok hW1 n (by omega)
 have hDm:∀ q,q∈dd W n↔q∈L:=fun q=>by rw [hD2,← hWn,List.take_length];exact hW2.mem_iff
 have hDl:=dd_len W n
 refine t_cut (ι:=List Value) (fun _=>[(3,.pointer (some ⟨sb,0,none⟩))]) (fun T=>[(g,coB Pv.x Pv.y (dd W n)++T,some (111,2,cp)),(sb,[.slice (some ⟨g,0,none⟩) (dd W n).length cp],some (101,1,1))]) (fun _=>True) ?_ ?_
 · repeat' (first|((with_reducible apply oq_id);first|((with_reducible apply oq_load);exact rfl;exact rfl))|((with_reducible apply tl_id);first|(with_reducible apply tl_nil)|((with_reducible apply u_s);(iterate 3 exact rfl);(with_reducible apply os_callM (PV:=fun v H1=>(∃ T:List Value,v=.slice (some ⟨g,0,none⟩) (dd W n).length cp∧H1=[(g,coB Pv.x Pv.y (dd W n)++T,some (111,2,cp))])) (G:=[(g,coB Pv.x Pv.y (W),some (111,2,cp))]) (R:=[(sb,[.slice (some ⟨g,0,none⟩) n cp],some (101,1,1))]) (hc:=Try.call164));exact rfl;exact rfl;(repeat (first|exact HpSub.refl _|(apply HpSub.consE;(repeat first|exact P0|apply P1);exact rfl)|apply HpSub.skipX|apply HpSub.skipX|exact HpSub.nil));exact fun D w1 hw1 hg1=>compact_M g cp n W w1 hg1 hWn (by omega) hcp;rintro _ _ ⟨T,rfl,rfl⟩;(try simp only [List.cons_append,List.nil_append,List.append_nil]))|((with_reducible apply u_q);(iterate 4 exact rfl))|((with_reducible apply u_s0);exact rfl;exact rfl))|((with_reducible apply os_id);first|((with_reducible apply os_store);(iterate 4 exact rfl)))|((with_reducible apply rd_id);first|(apply Rd.own;(repeat first|exact P0|apply P1);exact rfl;done))|((with_reducible apply t_id);first|(apply t_region;kernel_rfl))|exact P0|(with_reducible apply P1)|((with_reducible apply Norm.nil);exact rfl)|((with_reducible apply Norm.cons);exact rfl)|exact Nat.le_of_ble_eq_true rfl)
   all_goals exact ⟨by trivial,T,trivial,by (repeat' (first|exact FrSub.nil|(apply FrSub.cons;exact rfl))),by (repeat' (first|exact HpSub.refl _|(apply HpSub.consE;(repeat first|exact P0|apply P1);first|exact rfl|(simp;done))))⟩
 rintro T -
 try dsimp only
 obtain ⟨Bq,hD⟩:∃ Bq,dd W n=Bq:=⟨_,rfl⟩
 rw [hD] at hD1 hD2 hDm hDl ⊢
 refine t_subW HpW.pre ?_
 by_cases h3:Bq.length<3
 · repeat' (first|((with_reducible apply oq_id);first|((with_reducible apply oq_lssT);exact rfl;exact rfl;omega)|(apply oq_fn;exact rfl;first|exact trivial|(and_intros<;>omega)|omega|skip)|((with_reducible apply oq_load);exact rfl;exact rfl))|((with_reducible apply tl_id);first|(with_reducible apply tl_nil)|((with_reducible apply u_q);(iterate 4 exact rfl)))|((with_reducible apply rd_id);first|(apply Rd.own;(repeat first|exact P0|apply P1);exact rfl;done))|((with_reducible apply t_id);first|(with_reducible apply t_seq)|(apply t_region;kernel_rfl)|((with_reducible apply t_condT);exact rfl)|(with_reducible apply t_ret))|with_reducible apply q_thenN|with_reducible apply q_thenR|(with_reducible apply end_ret)|exact rvs_nil|(with_reducible apply rvs_cons)|((with_reducible apply rv_tmp);exact rfl))
   all_goals exact ⟨_,⟨g,cp,Bq,hD1,hDm,(by rw [hulI_two h3];rfl),rfl⟩,(by rw [hulI_two h3];(repeat' (first|exact HpSub.refl _|(apply HpSub.consE;(repeat first|exact P0|apply P1);first|exact rfl|(simp;done))|apply HpSub.skipX)))⟩
 have hbD:∀ q∈Bq,Bd 536870912 q:=fun q hq=>hb q ((hDm q).1 hq)
 refine t_cut (ι:=Unit) (fun _=>[(3,.pointer (some ⟨sb,0,none⟩))]) (fun _=>[(g,coB Pv.x Pv.y (Bq),some (111,2,cp)),(sb,[.slice (some ⟨g,0,none⟩) Bq.length cp],some (101,1,1))]) (fun _=>True) ?_ ?_
 · repeat' (first|((with_reducible apply oq_id);first|((with_reducible apply oq_lssF);exact rfl;exact rfl;omega)|(apply oq_fn;exact rfl;first|exact trivial|(and_intros<;>omega)|omega|skip)|((with_reducible apply oq_load);exact rfl;exact rfl))|((with_reducible apply tl_id);first|(with_reducible apply tl_nil)|((with_reducible apply u_q);(iterate 4 exact rfl)))|((with_reducible apply rd_id);first|(apply Rd.own;(repeat first|exact P0|apply P1);exact rfl;done))|((with_reducible apply t_id);first|(with_reducible apply t_seq)|(apply t_region;kernel_rfl)|((with_reducible apply t_condF);exact rfl)|(with_reducible apply t_skip))|with_reducible apply q_thenN)
   all_goals exact ⟨by trivial,(),trivial,by (repeat' (first|exact FrSub.nil|(apply FrSub.cons;exact rfl))),by (repeat' (first|exact HpSub.refl _))⟩
 rintro ⟨⟩ -
 try dsimp only
 refine t_cut (ι:=Nat) (fun ob=>[(3,.pointer (some ⟨sb,0,none⟩)),(4,.pointer (some ⟨ob,0,none⟩))]) (fun ob=>[(ob,[.slice none 0 0],some (101,1,1)),(sb,[.slice (some ⟨g,0,none⟩) Bq.length cp],some (101,1,1)),(g,coB Pv.x Pv.y (Bq),some (111,2,cp))]) (fun _=>True) ?_ ?_
 · repeat' (first|((with_reducible apply tl_id);first|(with_reducible apply tl_nil)|((with_reducible apply u_s);(iterate 3 exact rfl)))|((with_reducible apply os_id);first|((with_reducible apply os_x);exact rfl))|((with_reducible apply ox_id);first|((with_reducible apply ox_alloc);exact rfl;intro _))|((with_reducible apply t_id);first|(apply t_region;kernel_rfl)))
   all_goals exact ⟨by trivial,_,trivial,by (repeat' (first|exact FrSub.nil|(apply FrSub.cons;exact rfl))),by (repeat' (first|exact HpSub.refl _|(apply HpSub.consE;(repeat first|exact P0|apply P1);first|exact rfl|(simp;done))))⟩
 rintro ob -
 try dsimp only
 refine t_cut (ι:=Unit) (fun _=>[(3,.pointer (some ⟨sb,0,none⟩)),(4,.pointer (some ⟨ob,0,none⟩)),(5,.func (.func 165) #[] #[.pointer (some ⟨ob,0,none⟩),.pointer (some ⟨sb,0,none⟩)])]) (fun _=>[(ob,[.slice none 0 0],some (101,1,1)),(sb,[.slice (some ⟨g,0,none⟩) Bq.length cp],some (101,1,1)),(g,coB Pv.x Pv.y (Bq),some (111,2,cp))]) (fun _=>True) ?_ ?_
 · repeat' (first|((with_reducible apply oq_id);first|(apply oq_fn;exact rfl;first|exact trivial|(and_intros<;>omega)|omega|skip))|((with_reducible apply tl_id);first|(with_reducible apply tl_nil)|((with_reducible apply u_q);(iterate 4 exact rfl)))|((with_reducible apply t_id);first|(apply t_region;kernel_rfl)))
   all_goals exact ⟨by trivial,(),trivial,by (repeat' (first|exact FrSub.nil|(apply FrSub.cons;exact rfl))),by (repeat' (first|exact HpSub.refl _))⟩
 rintro ⟨⟩ -
 try dsimp only
 refine t_cut (ι:=Nat×Nat) (fun _=>[(3,.pointer (some ⟨sb,0,none⟩)),(4,.pointer (some ⟨ob,0,none⟩)),(5,.func (.func 165) #[] #[.pointer (some ⟨ob,0,none⟩),.pointer (some ⟨sb,0,none⟩)])]) (fun z=>[(ob,[.slice (some ⟨z.1,0,none⟩) ([]++(chn Bq).reverse.dropLast).length z.2],some (101,1,1)),(sb,[.slice (some ⟨g,0,none⟩) (Bq).length cp],some (101,1,1)),(g,coB Pv.x Pv.y (Bq),some (111,2,cp)),(z.1,coB Pv.x Pv.y ([]++(chn Bq).reverse.dropLast),some (111,2,z.2))]) (fun _=>True) ?_ ?_
 · repeat' (first|((with_reducible apply oq_id);first|(apply oq_fn;exact rfl;first|exact trivial|(and_intros<;>omega)|omega|skip))|((with_reducible apply tl_id);first|(with_reducible apply tl_nil)|((with_reducible apply u_s);(iterate 3 exact rfl);(with_reducible apply os_callM (PV:=fun v H1=>(∃ h ch,v=.tuple #[]∧H1=[(ob,[.slice (some ⟨h,0,none⟩) ([]++(chn Bq).reverse.dropLast).length ch],some (101,1,1)),(sb,[.slice (some ⟨g,0,none⟩) (Bq).length cp],some (101,1,1)),(g,coB Pv.x Pv.y (Bq),some (111,2,cp)),(h,coB Pv.x Pv.y ([]++(chn Bq).reverse.dropLast),some (111,2,ch))])) (G:=[(ob,[.slice none 0 0],some (101,1,1)),(sb,[.slice (some ⟨g,0,none⟩) Bq.length cp],some (101,1,1)),(g,coB Pv.x Pv.y (Bq),some (111,2,cp))]) (R:=[]) (hc:=Try.call165));exact rfl;exact rfl;(repeat (first|exact HpSub.refl _|(apply HpSub.consE;(repeat first|exact P0|apply P1);exact rfl)|apply HpSub.skipX|apply HpSub.skipX|exact HpSub.nil));exact fun D w1 hw1 hg1=>chain_M _ ob sb g cp Bq.length Bq [] none (fun _=>rfl) rfl (by omega) (by omega) (Nat.zero_le _) hbD w1 hg1;rintro _ _ ⟨h,ch,rfl,rfl⟩;(try simp only [List.cons_append,List.nil_append,List.append_nil]))|((with_reducible apply u_q);(iterate 4 exact rfl)))|((with_reducible apply t_id);first|(apply t_region;kernel_rfl)))
   all_goals exact ⟨by trivial,(h,ch),trivial,by (repeat' (first|exact FrSub.nil|(apply FrSub.cons;exact rfl))),by (repeat' (first|exact HpSub.refl _))⟩
 rintro ⟨h,ch⟩ -
 try dsimp only
 rw [List.nil_append]
 obtain ⟨S1,hS1⟩:∃ S1,(chn Bq).reverse.dropLast=S1:=⟨_,rfl⟩
 have hS1l:S1.length≤50:=by
   have:=chn_len Bq
   rw [← hS1,List.length_dropLast,List.length_reverse];omega
 rw [hS1]
 refine t_cut (ι:=Unit) (fun _=>[(3,.pointer (some ⟨sb,0,none⟩)),(4,.pointer (some ⟨ob,0,none⟩)),(5,.func (.func 165) #[] #[.pointer (some ⟨ob,0,none⟩),.pointer (some ⟨sb,0,none⟩)])]) (fun _=>[(ob,[.slice (some ⟨h,0,none⟩) (S1).length ch],some (101,1,1)),(sb,[.slice (some ⟨g,0,none⟩) Bq.length cp],some (101,1,1)),(g,coB Pv.x Pv.y (Bq.reverse),some (111,2,cp)),(h,coB Pv.x Pv.y (S1),some (111,2,ch))]) (fun _=>True) ?_ ?_
 · repeat' (first|((with_reducible apply oq_id);first|((with_reducible apply oq_load);exact rfl;exact rfl))|((with_reducible apply tl_id);first|(with_reducible apply tl_nil)|((with_reducible apply u_s);(iterate 3 exact rfl);(with_reducible apply os_callM (PV:=fun v H1=>(v=.tuple #[]∧H1=[(g,coB Pv.x Pv.y (Bq.reverse),some (111,2,cp))])) (G:=[(g,coB Pv.x Pv.y (Bq),some (111,2,cp))]) (R:=[(ob,[.slice (some ⟨h,0,none⟩) (S1).length ch],some (101,1,1)),(sb,[.slice (some ⟨g,0,none⟩) Bq.length cp],some (101,1,1)),(h,coB Pv.x Pv.y (S1),some (111,2,ch))]) (hc:=Try.call166));exact rfl;exact rfl;(repeat (first|exact HpSub.refl _|(apply HpSub.consE;(repeat first|exact P0|apply P1);exact rfl)|apply HpSub.skipX|apply HpSub.skipX|exact HpSub.nil));exact fun D w1 hw1 hg1=>rev_M g cp Bq.length Bq w1 hg1 rfl (by omega);rintro _ _ ⟨rfl,rfl⟩;(try simp only [List.cons_append,List.nil_append,List.append_nil]))|((with_reducible apply u_q);(iterate 4 exact rfl)))|((with_reducible apply rd_id);first|(apply Rd.own;(repeat first|exact P0|apply P1);exact rfl;done))|((with_reducible apply t_id);first|(apply t_region;kernel_rfl)))
   all_goals exact ⟨by trivial,(),trivial,by (repeat' (first|exact FrSub.nil|(apply FrSub.cons;exact rfl))),by (repeat' (first|exact HpSub.refl _|(apply HpSub.consE;(repeat first|exact P0|apply P1);first|exact rfl|(simp;done))))⟩
 rintro ⟨⟩ -
 try dsimp only
 obtain ⟨E,hE⟩:∃ E,Bq.reverse=E:=⟨_,rfl⟩
 have hEl:Bq.length=E.length:=by rw [← hE,List.length_reverse]
 have hbE:∀ q∈E,Bd 536870912 q:=fun q hq=>hbD q (by rw [← hE] at hq;exact List.mem_reverse.1 hq)
 have hres:hulI Bq=S1++(chn E).reverse.dropLast:=by rw [← hS1,← hE];unfold hulI;rw [if_neg (by omega)]
 rw [hE,hEl]
 rw [hEl] at h3 hDl
 repeat' (first|((with_reducible apply oq_id);first|(apply oq_fn;exact rfl;first|exact trivial|(and_intros<;>omega)|omega|skip)|((with_reducible apply oq_load);exact rfl;exact rfl))|((with_reducible apply tl_id);first|(with_reducible apply tl_nil)|((with_reducible apply u_s);(iterate 3 exact rfl);(with_reducible apply os_callM (PV:=fun v H1=>(∃ h ch,v=.tuple #[]∧H1=[(ob,[.slice (some ⟨h,0,none⟩) (S1++(chn E).reverse.dropLast).length ch],some (101,1,1)),(sb,[.slice (some ⟨g,0,none⟩) (E).length cp],some (101,1,1)),(g,coB Pv.x Pv.y (E),some (111,2,cp)),(h,coB Pv.x Pv.y (S1++(chn E).reverse.dropLast),some (111,2,ch))])) (G:=[(ob,[.slice (some ⟨h,0,none⟩) (S1).length ch],some (101,1,1)),(sb,[.slice (some ⟨g,0,none⟩) (E).length cp],some (101,1,1)),(g,coB Pv.x Pv.y (E),some (111,2,cp)),(h,coB Pv.x Pv.y (S1),some (111,2,ch))]) (R:=[]) (hc:=Try.call165));exact rfl;exact rfl;(repeat (first|exact HpSub.refl _|(apply HpSub.consE;(repeat first|exact P0|apply P1);exact rfl)|apply HpSub.skipX|apply HpSub.skipX|exact HpSub.nil));exact fun D w1 hw1 hg1=>chain_M _ ob sb g cp E.length E S1 (some (h,ch)) (fun e=>nomatch e) rfl (by omega) (by omega) (by omega) hbE w1 hg1;rintro _ _ ⟨h2,ch2,rfl,rfl⟩;(try simp only [List.cons_append,List.nil_append,List.append_nil]))|((with_reducible apply u_q);(iterate 4 exact rfl)))|((with_reducible apply rd_id);first|(apply Rd.own;(repeat first|exact P0|apply P1);exact rfl;done))|((with_reducible apply t_id);first|(with_reducible apply t_seq)|(apply t_region;kernel_rfl)|(with_reducible apply t_ret))|with_reducible apply q_thenN|(with_reducible apply end_ret)|exact rvs_nil|(with_reducible apply rvs_cons)|((with_reducible apply rv_tmp);exact rfl))
 all_goals exact ⟨_,⟨h2,ch2,Bq,hD1,hDm,(by rw [hres];rfl),rfl⟩,(by rw [hres];(repeat' (first|exact HpSub.refl _|(apply HpSub.consE;(repeat first|exact P0|apply P1);first|exact rfl|(simp;done))|apply HpSub.skipX)))⟩
theorem half_calls (u:Pv) (w:World):Calls Try.prog 171 #[.agg #[.int .i64 u.x,.int .i64 u.y]] w fun e w'=>e=.returned (.int .i64 (half u))∧Ext w w':=by
 refine enterQ (c:=cx w 16) Try.func171 rfl rfl rfl rfl ?_
 by_cases h1:0<u.x
 · have hh:half u=0:=if_pos (.inl h1)
   rw [hh]
   repeat' (first|((with_reducible apply oq_id);first|((with_reducible apply oq_gtrT);exact rfl;exact rfl;omega)|(apply oq_fn;exact rfl;first|exact trivial|(and_intros<;>omega)|omega|skip)|((with_reducible apply oq_load);exact rfl;exact rfl))|((with_reducible apply tl_id);first|(with_reducible apply tl_nil)|((with_reducible apply u_q);(iterate 4 exact rfl))|((with_reducible apply u_s);(iterate 3 exact rfl))|((with_reducible apply u_skip);(iterate 3 exact rfl)))|((with_reducible apply os_id);first|((with_reducible apply os_x);exact rfl))|((with_reducible apply ox_id);first|((with_reducible apply ox_boxAgg);exact rfl;intro _))|((with_reducible apply rd_id);first|(apply Rd.own;(repeat first|exact P0|apply P1);exact rfl;done))|((with_reducible apply t_id);first|(with_reducible apply t_seq)|(apply t_region;kernel_rfl)|((with_reducible apply t_condT);exact rfl)|(with_reducible apply t_ret))|with_reducible apply q_thenN|with_reducible apply q_thenR|(with_reducible apply end_ret)|exact rvs_nil|(with_reducible apply rvs_cons)|((with_reducible apply rv_tmp);exact rfl))
   all_goals rfl
 by_cases h2:u.x=0
 · by_cases h3:0<u.y
   · have hh:half u=0:=if_pos (.inr ⟨h2,h3⟩)
     rw [hh]
     repeat' (first|((with_reducible apply oq_id);first|((with_reducible apply oq_gtrT);exact rfl;exact rfl;omega)|((with_reducible apply oq_gtrF);exact rfl;exact rfl;omega)|((with_reducible apply oq_eqlT);exact rfl;exact rfl;omega)|(apply oq_fn;exact rfl;first|exact trivial|(and_intros<;>omega)|omega|skip)|((with_reducible apply oq_load);exact rfl;exact rfl))|((with_reducible apply tl_id);first|(with_reducible apply tl_nil)|((with_reducible apply u_q);(iterate 4 exact rfl))|((with_reducible apply u_s);(iterate 3 exact rfl)))|((with_reducible apply os_id);first|((with_reducible apply os_x);exact rfl))|((with_reducible apply ox_id);first|((with_reducible apply ox_boxAgg);exact rfl;intro _))|((with_reducible apply rd_id);first|(apply Rd.own;(repeat first|exact P0|apply P1);exact rfl;done))|((with_reducible apply t_id);first|(with_reducible apply t_seq)|(apply t_region;kernel_rfl)|((with_reducible apply t_condT);exact rfl)|(with_reducible apply t_ret))|with_reducible apply q_thenN|with_reducible apply q_thenR|(with_reducible apply end_ret)|exact rvs_nil|(with_reducible apply rvs_cons)|((with_reducible apply rv_tmp);exact rfl))
     all_goals rfl
   · have hh:half u=1:=if_neg (by unfold pos;omega)
     rw [hh]
     repeat' (first|((with_reducible apply oq_id);first|((with_reducible apply oq_gtrF);exact rfl;exact rfl;omega)|((with_reducible apply oq_eqlT);exact rfl;exact rfl;omega)|(apply oq_fn;exact rfl;first|exact trivial|(and_intros<;>omega)|omega|skip)|((with_reducible apply oq_load);exact rfl;exact rfl))|((with_reducible apply tl_id);first|(with_reducible apply tl_nil)|((with_reducible apply u_q);(iterate 4 exact rfl))|((with_reducible apply u_s);(iterate 3 exact rfl)))|((with_reducible apply os_id);first|((with_reducible apply os_x);exact rfl))|((with_reducible apply ox_id);first|((with_reducible apply ox_boxAgg);exact rfl;intro _))|((with_reducible apply rd_id);first|(apply Rd.own;(repeat first|exact P0|apply P1);exact rfl;done))|((with_reducible apply t_id);first|(with_reducible apply t_seq)|(apply t_region;kernel_rfl)|((with_reducible apply t_condF);exact rfl)|(with_reducible apply t_ret)|(with_reducible apply t_skip))|with_reducible apply q_thenN|(with_reducible apply end_ret)|exact rvs_nil|(with_reducible apply rvs_cons)|((with_reducible apply rv_tmp);exact rfl))
     all_goals rfl
 · have hh:half u=1:=if_neg (by unfold pos;omega)
   rw [hh]
   repeat' (first|((with_reducible apply oq_id);first|((with_reducible apply oq_gtrF);exact rfl;exact rfl;omega)|((with_reducible apply oq_eqlF);exact rfl;exact rfl;omega)|(apply oq_fn;exact rfl;first|exact trivial|(and_intros<;>omega)|omega|skip)|((with_reducible apply oq_load);exact rfl;exact rfl))|((with_reducible apply tl_id);first|(with_reducible apply tl_nil)|((with_reducible apply u_q);(iterate 4 exact rfl))|((with_reducible apply u_s);(iterate 3 exact rfl))|((with_reducible apply u_skip);(iterate 3 exact rfl)))|((with_reducible apply os_id);first|((with_reducible apply os_x);exact rfl))|((with_reducible apply ox_id);first|((with_reducible apply ox_boxAgg);exact rfl;intro _))|((with_reducible apply rd_id);first|(apply Rd.own;(repeat first|exact P0|apply P1);exact rfl;done))|((with_reducible apply t_id);first|(with_reducible apply t_seq)|(apply t_region;kernel_rfl)|((with_reducible apply t_condF);exact rfl)|(with_reducible apply t_ret)|(with_reducible apply t_skip))|with_reducible apply q_thenN|(with_reducible apply end_ret)|exact rvs_nil|(with_reducible apply rvs_cons)|((with_reducible apply rv_tmp);exact rfl))
   all_goals rfl
theorem near_calls (p:Addr) (n c:Nat) (L:List Pv) (hl:L.length=n) (hn:n≤1000000) (hb:∀ q∈L,Bd 268435456 q) (w:World) (hr:RdS w 2 (some p) n (L.map (coC Pv.x Pv.y))):Calls Try.prog 108 #[.slice (some p) n c] w fun e w'=>e=.returned (.bool true)∧Ext w w':=by
 refine enterQ (c:=cx w 26) Try.func108 rfl rfl rfl rfl ?_
 refine t_cut (ι:=Unit) (fun _=>[(0,.slice (some p) n c)]) (fun _=>([]:Hp)) (fun _=>True) ?_ ?_
 · repeat' (first|((with_reducible apply oq_id);first|(apply oq_fn;exact rfl;first|exact trivial|(and_intros<;>omega)|omega|skip))|((with_reducible apply tl_id);first|(with_reducible apply tl_nil)|((with_reducible apply u_q);(iterate 4 exact rfl)))|((with_reducible apply t_id);first|(apply t_region;kernel_rfl)))
   all_goals exact ⟨by trivial,(),trivial,by (repeat' (first|exact FrSub.nil|(apply FrSub.cons;exact rfl))),by (repeat' (first|exact HpSub.refl _))⟩
 rintro ⟨⟩ -
 try dsimp only
 refine t_cut (ι:=Unit) (fun _=>[(0,.slice (some p) n c)]) (fun _=>([]:Hp)) (fun _=>True) ?_ ?_
 rotate_left
 · rintro ⟨⟩ -
   try dsimp only
   repeat' (first|((with_reducible apply oq_id);first|(apply oq_fn;exact rfl;first|exact trivial|(and_intros<;>omega)|omega|skip))|((with_reducible apply tl_id);first|(with_reducible apply tl_nil)|((with_reducible apply u_q);(iterate 4 exact rfl)))|((with_reducible apply t_id);first|(with_reducible apply t_seq)|(apply t_region;kernel_rfl)|(with_reducible apply t_ret))|with_reducible apply q_thenN|(with_reducible apply end_ret)|exact rvs_nil|(with_reducible apply rvs_cons)|((with_reducible apply rv_tmp);exact rfl))
   all_goals rfl
 refine t_cut (ι:=Unit) (fun _=>[(0,.slice (some p) n c),(5,.slice (some p) n c),(6,.int .i64 ((n:Nat):Int)),(7,.int .i64 ((0:Nat):Int))]) (fun _=>([]:Hp)) (fun _=>True) ?_ ?_
 · repeat' (first|((with_reducible apply oq_id);first|(apply oq_fn;exact rfl;first|exact trivial|(and_intros<;>omega)|omega|skip))|((with_reducible apply tl_id);first|(with_reducible apply tl_nil)|((with_reducible apply u_q);(iterate 4 exact rfl)))|((with_reducible apply t_id);first|(apply t_region;kernel_rfl)))
   all_goals exact ⟨by trivial,(),trivial,by (repeat' (first|exact FrSub.nil|(apply FrSub.cons;exact rfl))),by (repeat' (first|exact HpSub.refl _))⟩
 rintro ⟨⟩ -
 try dsimp only
 (with_reducible apply t_block)
 apply t_loopP (ι:=Nat) [0,5,6] (fun i=>[(7,.int .i64 ((i:Nat):Int))]) (fun _=>[]) (fun i=>i≤n) (fun i=>n-i) (0)
 (repeat (first|exact KeepF.nil|(apply KeepF.cons;exact rfl)|apply KeepF.skip))
 (repeat first|exact FrSub.nil|(apply FrSub.cons;exact rfl))
 (try simp only [List.cons_append,List.nil_append])
 (repeat' (first|exact HpSub.refl _))
 · exact Nat.zero_le _
 rintro i hi
 try simp only [List.cons_append,List.nil_append]
 by_cases hlt:i<n
 rotate_left
 · repeat' (first|((with_reducible apply oq_id);first|((with_reducible apply oq_lssF);exact rfl;exact rfl;omega))|((with_reducible apply tl_id);first|(with_reducible apply tl_nil)|((with_reducible apply u_q);(iterate 4 exact rfl)))|((with_reducible apply t_id);first|(with_reducible apply t_seq)|(apply t_region;kernel_rfl)|((with_reducible apply t_condF);exact rfl)|(with_reducible apply t_exit))|with_reducible apply q_thenN|with_reducible apply q_thenE|((with_reducible apply q_blockE);exact rfl))
   all_goals exact ⟨by trivial,(),trivial,by (repeat' (first|exact FrSub.nil|(apply FrSub.cons;exact rfl))),by (repeat' (first|exact HpSub.refl _))⟩
 obtain ⟨B,O,e,_,hc⟩:=hr.at_ (by omega)
 obtain rfl:=Option.some.inj e
 obtain ⟨q,hq⟩:∃ x,L[i]?=some x:=⟨_,List.getElem?_eq_getElem (by omega)⟩
 have hqb:=hb q (List.mem_of_getElem? hq)
 unfold Bd at hqb
 have hrow:(L.map (coC Pv.x Pv.y))[i]?=some [.int .i64 q.x,.int .i64 q.y]:=by rw [List.getElem?_map,hq];rfl
 have c0:=(hc i _ hrow).2 0 _ rfl
 have c1:=(hc i _ hrow).2 1 _ rfl
 repeat' (first|((with_reducible apply oq_id);first|(focus ((with_reducible apply oq_indexAddrN);(iterate 4 exact rfl);omega))|(focus ((with_reducible apply (oq_addE (k:=((i+1:Nat):Int))));exact rfl;exact rfl;omega))|((with_reducible apply oq_lssT);exact rfl;exact rfl;omega)|((with_reducible apply oq_lssF);exact rfl;exact rfl;omega)|((with_reducible apply oq_gtrF);exact rfl;exact rfl;omega)|(apply oq_fn;exact rfl;first|exact trivial|(and_intros<;>omega)|omega|skip)|((with_reducible apply oq_load);exact rfl;exact rfl)|((with_reducible apply oq_loadAgg);exact rfl;exact rfl))|((with_reducible apply tl_id);first|(with_reducible apply tl_nil)|((with_reducible apply u_q);(iterate 4 exact rfl))|((with_reducible apply u_s0);exact rfl;exact rfl)|((with_reducible apply u_s);(iterate 3 exact rfl)))|((with_reducible apply os_id);first|((with_reducible apply os_x);exact rfl)|((with_reducible apply os_storeAgg);(iterate 5 exact rfl)))|((with_reducible apply ox_id);first|((with_reducible apply ox_alloc);exact rfl;intro _))|((with_reducible apply rd_id);first|(apply Rd.own;(repeat first|exact P0|apply P1);exact rfl;done)|(apply Rd.old;(first|(with_reducible assumption)|exact c0|exact c1|exact c2|exact c3|exact c4|exact c5|exact c6|exact c7|exact c8|exact d0|exact d1|exact d2|exact d3|exact d4|exact d5);first|exact List.not_mem_nil|exact m0|exact m1|exact m2|exact m3|exact m4|exact m5|exact m6|exact m7|exact m8|exact m9))|((with_reducible apply t_id);first|(with_reducible apply t_seq)|(apply t_region;kernel_rfl)|((with_reducible apply t_condT);exact rfl)|((with_reducible apply t_condF);exact rfl)|(with_reducible apply t_skip)|(with_reducible apply t_block))|with_reducible apply q_thenN|with_reducible apply q_blockN|exact P0|exact Rdn.zero|apply Rdn.succ|((with_reducible apply Norm.nil);exact rfl)|((with_reducible apply Norm.cons);exact rfl)|exact Nat.le_of_ble_eq_true rfl)
 all_goals (refine ⟨i+1,by omega,by omega,?_,?_⟩<;>(repeat' (first|exact FrSub.nil|(apply FrSub.cons;exact rfl)|exact HpSub.refl _|apply HpSub.skipX)))
theorem equal_calls (p p2:Addr) (n c c2:Nat) (L:List Pv) (hl:L.length=n) (hn:n≤1000000) (w:World) (hr:RdS w 2 (some p) n (L.map (coC Pv.x Pv.y))) (hr2:RdS w 2 (some p2) n (L.map (coC Pv.x Pv.y))):Calls Try.prog 140 #[.slice (some p) n c,.slice (some p2) n c2] w fun e w'=>e=.returned (.bool true)∧Ext w w':=by
 refine enterQ (c:=cx w 26) Try.func140 rfl rfl rfl rfl ?_
 refine t_cut (ι:=Unit) (fun _=>[(0,.slice (some p) n c),(1,.slice (some p2) n c2)]) (fun _=>([]:Hp)) (fun _=>True) ?_ ?_
 · repeat' (first|((with_reducible apply oq_id);first|(apply oq_fn;exact rfl;first|exact trivial|(and_intros<;>omega)|omega|skip))|((with_reducible apply tl_id);first|(with_reducible apply tl_nil)|((with_reducible apply u_q);(iterate 4 exact rfl)))|((with_reducible apply t_id);first|(apply t_region;kernel_rfl)))
   all_goals exact ⟨by trivial,(),trivial,by (repeat' (first|exact FrSub.nil|(apply FrSub.cons;exact rfl))),by (repeat' (first|exact HpSub.refl _))⟩
 rintro ⟨⟩ -
 try dsimp only
 refine t_cut (ι:=Unit) (fun _=>[(0,.slice (some p) n c),(1,.slice (some p2) n c2)]) (fun _=>([]:Hp)) (fun _=>True) ?_ ?_
 · repeat' (first|((with_reducible apply oq_id);first|((with_reducible apply oq_neqF);exact rfl;exact rfl;omega)|(apply oq_fn;exact rfl;first|exact trivial|(and_intros<;>omega)|omega|skip))|((with_reducible apply tl_id);first|(with_reducible apply tl_nil)|((with_reducible apply u_q);(iterate 4 exact rfl)))|((with_reducible apply t_id);first|(with_reducible apply t_seq)|(apply t_region;kernel_rfl)|((with_reducible apply t_condF);exact rfl)|(with_reducible apply t_skip))|with_reducible apply q_thenN)
   all_goals exact ⟨by trivial,(),trivial,by (repeat' (first|exact FrSub.nil|(apply FrSub.cons;exact rfl))),by (repeat' (first|exact HpSub.refl _))⟩
 rintro ⟨⟩ -
 try dsimp only
 refine t_cut (ι:=Unit) (fun _=>[(0,.slice (some p) n c),(1,.slice (some p2) n c2)]) (fun _=>([]:Hp)) (fun _=>True) ?_ ?_
 rotate_left
 · rintro ⟨⟩ -
   try dsimp only
   repeat' (first|((with_reducible apply oq_id);first|(apply oq_fn;exact rfl;first|exact trivial|(and_intros<;>omega)|omega|skip))|((with_reducible apply tl_id);first|(with_reducible apply tl_nil)|((with_reducible apply u_q);(iterate 4 exact rfl)))|((with_reducible apply t_id);first|(with_reducible apply t_seq)|(apply t_region;kernel_rfl)|(with_reducible apply t_ret))|with_reducible apply q_thenN|(with_reducible apply end_ret)|exact rvs_nil|(with_reducible apply rvs_cons)|((with_reducible apply rv_tmp);exact rfl))
   all_goals rfl
 refine t_cut (ι:=Unit) (fun _=>[(0,.slice (some p) n c),(1,.slice (some p2) n c2),(11,.slice (some p) n c),(12,.int .i64 ((n:Nat):Int)),(13,.int .i64 ((0:Nat):Int))]) (fun _=>([]:Hp)) (fun _=>True) ?_ ?_
 · repeat' (first|((with_reducible apply oq_id);first|(apply oq_fn;exact rfl;first|exact trivial|(and_intros<;>omega)|omega|skip))|((with_reducible apply tl_id);first|(with_reducible apply tl_nil)|((with_reducible apply u_q);(iterate 4 exact rfl)))|((with_reducible apply t_id);first|(apply t_region;kernel_rfl)))
   all_goals exact ⟨by trivial,(),trivial,by (repeat' (first|exact FrSub.nil|(apply FrSub.cons;exact rfl))),by (repeat' (first|exact HpSub.refl _))⟩
 rintro ⟨⟩ -
 try dsimp only
 (with_reducible apply t_block)
 apply t_loopP (ι:=Nat) [0,1,11,12] (fun i=>[(13,.int .i64 ((i:Nat):Int))]) (fun _=>[]) (fun i=>i≤n) (fun i=>n-i) (0)
 (repeat (first|exact KeepF.nil|(apply KeepF.cons;exact rfl)|apply KeepF.skip))
 (repeat first|exact FrSub.nil|(apply FrSub.cons;exact rfl))
 (try simp only [List.cons_append,List.nil_append])
 (repeat' (first|exact HpSub.refl _))
 · exact Nat.zero_le _
 rintro i hi
 try simp only [List.cons_append,List.nil_append]
 by_cases hlt:i<n
 rotate_left
 · repeat' (first|((with_reducible apply oq_id);first|((with_reducible apply oq_lssF);exact rfl;exact rfl;omega))|((with_reducible apply tl_id);first|(with_reducible apply tl_nil)|((with_reducible apply u_q);(iterate 4 exact rfl)))|((with_reducible apply t_id);first|(with_reducible apply t_seq)|(apply t_region;kernel_rfl)|((with_reducible apply t_condF);exact rfl)|(with_reducible apply t_exit))|with_reducible apply q_thenN|with_reducible apply q_thenE|((with_reducible apply q_blockE);exact rfl))
   all_goals exact ⟨by trivial,(),trivial,by (repeat' (first|exact FrSub.nil|(apply FrSub.cons;exact rfl))),by (repeat' (first|exact HpSub.refl _))⟩
 obtain ⟨B,O,e,_,hc⟩:=hr.at_ (by omega)
 obtain rfl:=Option.some.inj e
 obtain ⟨B2,O2,e2,_,hc2⟩:=hr2.at_ (by omega)
 obtain rfl:=Option.some.inj e2
 obtain ⟨q,hq⟩:∃ x,L[i]?=some x:=⟨_,List.getElem?_eq_getElem (by omega)⟩
 have hrow:(L.map (coC Pv.x Pv.y))[i]?=some [.int .i64 q.x,.int .i64 q.y]:=by rw [List.getElem?_map,hq];rfl
 have c0:=(hc i _ hrow).2 0 _ rfl
 have c1:=(hc i _ hrow).2 1 _ rfl
 have c2:=(hc2 i _ hrow).2 0 _ rfl
 have c3:=(hc2 i _ hrow).2 1 _ rfl
 repeat' (first|((with_reducible apply oq_id);first|(focus ((with_reducible apply oq_indexAddrN);(iterate 4 exact rfl);omega))|((with_reducible apply (oq_ne111 (q:=false)));exact rfl;exact rfl;exact (by simp))|(focus ((with_reducible apply (oq_addE (k:=((i+1:Nat):Int))));exact rfl;exact rfl;omega))|((with_reducible apply oq_lssT);exact rfl;exact rfl;omega)|(apply oq_fn;exact rfl;first|exact trivial|(and_intros<;>omega)|omega|skip)|((with_reducible apply oq_loadAgg);exact rfl;exact rfl))|((with_reducible apply tl_id);first|(with_reducible apply tl_nil)|((with_reducible apply u_q);(iterate 4 exact rfl)))|((with_reducible apply gx_id);first|(with_reducible apply v_nil)|((with_reducible apply v_q);(iterate 3 exact rfl)))|((with_reducible apply rd_id);first|(apply Rd.old;(first|(with_reducible assumption)|exact c0|exact c1|exact c2|exact c3|exact c4|exact c5|exact c6|exact c7|exact c8|exact d0|exact d1|exact d2|exact d3|exact d4|exact d5);first|exact List.not_mem_nil|exact m0|exact m1|exact m2|exact m3|exact m4|exact m5|exact m6|exact m7|exact m8|exact m9))|((with_reducible apply t_id);first|(apply t_mix (id:=6) [0,1,2,3,4,5,6,7,8] 0 #[false,false,false,false,false,false,false,false,false];kernel_rfl;kernel_rfl;exact rfl)|(with_reducible apply t_seq)|(apply t_region;kernel_rfl)|((with_reducible apply t_condT);exact rfl)|((with_reducible apply t_condF);exact rfl)|(with_reducible apply t_skip)|(with_reducible apply t_block))|with_reducible apply q_thenN|with_reducible apply q_blockN|exact Rdn.zero|apply Rdn.succ|((with_reducible apply al_id);first|(apply al_done;decide +kernel)))
 all_goals (refine ⟨i+1,by omega,by omega,?_,?_⟩<;>(repeat' (first|exact FrSub.nil|(apply FrSub.cons;exact rfl)|exact HpSub.refl _)))
theorem checkR_calls (p:Addr) (n c:Nat) (L:List Pv) (hl:L.length=n) (h1:1≤n) (hn:n<50) (hb:∀ q∈L,Bd 268435456 q) (hh:∀ D:List Pv,D.Pairwise (fun a b=>ltP a b=true)→(∀ q,q∈D↔q∈L)→hulI D=L) (w:World) (hr:RdS w 2 (some p) n (L.map (coC Pv.x Pv.y))):Calls Try.prog 102 #[.slice (some p) n c] w fun e w'=>e=.returned (.int .i64 0)∧Ext w w':=by
 have hullS:∀ w1:World,RdS w1 2 (some p) n (L.map (coC Pv.x Pv.y))→Calls Try.prog 137 #[.slice (some p) n c] w1 fun e w'=>∃ v H',e=.returned v∧(∃ g cp,v=.slice (some ⟨g,0,none⟩) n cp∧H'=[(g,coB Pv.x Pv.y L,some (111,2,cp))])∧Has w1 ⟨[],[]⟩ H' w':=fun w1 h=>by
   refine (hull_P p n c L w1 h hl h1 hn (fun q hq=>by have:=hb q hq;unfold Bd at this ⊢;omega)).mono ?_
   rintro e w' ⟨v,H',h2,⟨g,cp,Dd,h3,h4,h5,h6⟩,h7⟩
   rw [hh Dd h3 h4] at h5 h6
   rw [hl] at h5
   exact ⟨v,H',h2,⟨g,cp,h5,h6⟩,h7⟩
 refine enterQ (c:=cx w 23) Try.func102 rfl rfl rfl rfl ?_
 refine t_cut (ι:=Unit) (fun _=>[(0,.slice (some p) n c)]) (fun _=>([]:Hp)) (fun _=>True) ?_ ?_
 · repeat' (first|((with_reducible apply oq_id);first|(apply oq_fn;exact rfl;first|exact trivial|(and_intros<;>omega)|omega|skip))|((with_reducible apply tl_id);first|(with_reducible apply tl_nil)|((with_reducible apply u_q);(iterate 4 exact rfl)))|((with_reducible apply t_id);first|(apply t_region;kernel_rfl)))
   all_goals exact ⟨by trivial,(),trivial,by (repeat' (first|exact FrSub.nil|(apply FrSub.cons;exact rfl))),by (repeat' (first|exact HpSub.refl _))⟩
 rintro ⟨⟩ -
 try dsimp only
 repeat' (first|((with_reducible apply oq_id);first|((with_reducible apply oq_lssF);exact rfl;exact rfl;omega)|((with_reducible apply oq_gtrF);exact rfl;exact rfl;omega)|(apply oq_fn;exact rfl;first|exact trivial|(and_intros<;>omega)|omega|skip)|((with_reducible apply oq_call (hc:=Try.call108));exact rfl;exact rfl;exact fun D w1 hw1=>near_calls p n c L hl (by omega) hb w1 (hr.ext hw1.ext.ext))|((with_reducible apply oq_call (hc:=Try.call140));exact rfl;exact rfl;exact fun D w1 hw1=>equal_calls ⟨g,0,none⟩ p n cp c L hl (by omega) w1 (Blk.rows (hw1.blkP (by (repeat first|exact P0|apply P1))) (by simp [hl]) (co_rl L)) (hr.ext hw1.ext.ext)))|((with_reducible apply tl_id);first|(with_reducible apply tl_nil)|((with_reducible apply u_s);(iterate 3 exact rfl);(with_reducible apply os_callF (PV:=fun v H'=>∃ g cp,v=.slice (some ⟨g,0,none⟩) n cp∧H'=[(g,coB Pv.x Pv.y L,some (111,2,cp))]) (hc:=Try.call137));exact rfl;exact rfl;exact fun D w1 hw1=>hullS w1 (hr.ext hw1.ext.ext);rintro _ _ ⟨g,cp,rfl,rfl⟩;simp only [List.cons_append,List.nil_append])|((with_reducible apply u_q);(iterate 4 exact rfl)))|((with_reducible apply t_id);first|(with_reducible apply t_seq)|(apply t_region;kernel_rfl)|((with_reducible apply t_condF);exact rfl)|(with_reducible apply t_ret)|(with_reducible apply t_skip))|with_reducible apply q_thenN|(with_reducible apply end_ret)|exact rvs_nil|(with_reducible apply rvs_cons)|((with_reducible apply rv_tmp);exact rfl))
 all_goals rfl
instance (m:Int) (a:Pv):Decidable (Bd m a):=by unfold Bd;infer_instance
def nearB (L:List Pv):Bool:=L.all fun q=>decide (Bd 268435456 q)
theorem nearB_iff {L:List Pv}:nearB L=true↔∀ q∈L,Bd 268435456 q:=by
 unfold nearB;rw [List.all_eq_true];exact ⟨fun h q hq=>of_decide_eq_true (h q hq),fun h q hq=>decide_eq_true (h q hq)⟩
theorem nearB_no {L:List Pv} {q:Pv} (h:q∈L) (k:¬ Bd 268435456 q):nearB L=false:=by
 cases e:nearB L with
 | false=>rfl
 | true=>exact absurd (nearB_iff.1 e q h) k
theorem nearB_calls (p:Addr) (n c:Nat) (L:List Pv) (hl:L.length=n) (hn:n≤1000000) (w:World) (hr:RdS w 2 (some p) n (L.map (coC Pv.x Pv.y))):Calls Try.prog 108 #[.slice (some p) n c] w fun e w'=>e=.returned (.bool (nearB L))∧Ext w w':=by
 obtain ⟨bv,hbv⟩:∃ b,nearB L=b:=⟨_,rfl⟩
 rw [hbv]
 refine enterQ (c:=cx w 26) Try.func108 rfl rfl rfl rfl ?_
 refine t_cut (ι:=Unit) (fun _=>[(0,.slice (some p) n c)]) (fun _=>([]:Hp)) (fun _=>True) ?_ ?_
 · repeat' (first|((with_reducible apply oq_id);first|(apply oq_fn;exact rfl;first|exact trivial|(and_intros<;>omega)|omega|skip))|((with_reducible apply tl_id);first|(with_reducible apply tl_nil)|((with_reducible apply u_q);(iterate 4 exact rfl)))|((with_reducible apply t_id);first|(apply t_region;kernel_rfl)))
   all_goals exact ⟨by trivial,(),trivial,by (repeat' (first|exact FrSub.nil|(apply FrSub.cons;exact rfl))),by (repeat' (first|exact HpSub.refl _))⟩
 rintro ⟨⟩ -
 try dsimp only
 (with_reducible apply t_seq)
 refine t_cut (ι:=Unit) (fun _=>[(0,.slice (some p) n c),(5,.slice (some p) n c),(6,.int .i64 ((n:Nat):Int)),(7,.int .i64 ((0:Nat):Int))]) (fun _=>([]:Hp)) (fun _=>True) ?_ ?_
 · repeat' (first|((with_reducible apply oq_id);first|(apply oq_fn;exact rfl;first|exact trivial|(and_intros<;>omega)|omega|skip))|((with_reducible apply tl_id);first|(with_reducible apply tl_nil)|((with_reducible apply u_q);(iterate 4 exact rfl)))|((with_reducible apply t_id);first|(apply t_region;kernel_rfl)))
   all_goals exact ⟨by trivial,(),trivial,by (repeat' (first|exact FrSub.nil|(apply FrSub.cons;exact rfl))),by (repeat' (first|exact HpSub.refl _))⟩
 rintro ⟨⟩ -
 try dsimp only
 (with_reducible apply t_block)
 apply t_loopP (ι:=Nat) [0,5,6] (fun i=>[(7,.int .i64 ((i:Nat):Int))]) (fun _=>[]) (fun i=>i≤n∧∀ j q,j<i→L[j]?=some q→Bd 268435456 q) (fun i=>n-i) (0)
 (repeat (first|exact KeepF.nil|(apply KeepF.cons;exact rfl)|apply KeepF.skip))
 (repeat first|exact FrSub.nil|(apply FrSub.cons;exact rfl))
 (try simp only [List.cons_append,List.nil_append])
 (repeat' (first|exact HpSub.refl _))
 · exact ⟨Nat.zero_le _,fun j q h=>absurd h (by omega)⟩
 rintro i ⟨hi,hg⟩
 try simp only [List.cons_append,List.nil_append]
 by_cases hlt:i<n
 rotate_left
 · obtain rfl:bv=true:=by
     rw [← hbv]
     exact nearB_iff.2 fun q hq=>by
       obtain ⟨j,hj⟩:=List.getElem?_of_mem hq
       exact hg j q (by have:=(List.getElem?_eq_some_iff.1 hj).1;omega) hj
   repeat' (first|((with_reducible apply oq_id);first|((with_reducible apply oq_lssF);exact rfl;exact rfl;omega)|(apply oq_fn;exact rfl;first|exact trivial|(and_intros<;>omega)|omega|skip))|((with_reducible apply tl_id);first|(with_reducible apply tl_nil)|((with_reducible apply u_q);(iterate 4 exact rfl)))|((with_reducible apply t_id);first|(with_reducible apply t_seq)|(apply t_region;kernel_rfl)|((with_reducible apply t_condF);exact rfl)|(with_reducible apply t_ret)|(with_reducible apply t_exit))|with_reducible apply q_thenN|with_reducible apply q_thenE|((with_reducible apply q_blockE);exact rfl)|(with_reducible apply end_ret)|exact rvs_nil|(with_reducible apply rvs_cons)|((with_reducible apply rv_tmp);exact rfl))
   all_goals rfl
 obtain ⟨B,O,e,_,hc⟩:=hr.at_ (by omega)
 obtain rfl:=Option.some.inj e
 obtain ⟨q,hq⟩:∃ x,L[i]?=some x:=⟨_,List.getElem?_eq_getElem (by omega)⟩
 have hrow:(L.map (coC Pv.x Pv.y))[i]?=some [.int .i64 q.x,.int .i64 q.y]:=by rw [List.getElem?_map,hq];rfl
 have c0:=(hc i _ hrow).2 0 _ rfl
 have c1:=(hc i _ hrow).2 1 _ rfl
 have hqm:=List.mem_of_getElem? hq
 by_cases h1:268435456<max q.x q.y
 · obtain rfl:bv=false:=by rw [← hbv];exact nearB_no hqm (by unfold Bd;omega)
   repeat' (first|((with_reducible apply oq_id);first|(focus ((with_reducible apply oq_indexAddrN);(iterate 4 exact rfl);omega))|((with_reducible apply oq_lssT);exact rfl;exact rfl;omega)|((with_reducible apply oq_gtrT);exact rfl;exact rfl;omega)|(apply oq_fn;exact rfl;first|exact trivial|(and_intros<;>omega)|omega|skip)|((with_reducible apply oq_load);exact rfl;exact rfl)|((with_reducible apply oq_loadAgg);exact rfl;exact rfl))|((with_reducible apply tl_id);first|(with_reducible apply tl_nil)|((with_reducible apply u_q);(iterate 4 exact rfl))|((with_reducible apply u_s0);exact rfl;exact rfl)|((with_reducible apply u_s);(iterate 3 exact rfl))|((with_reducible apply u_skip);(iterate 3 exact rfl)))|((with_reducible apply os_id);first|((with_reducible apply os_x);exact rfl)|((with_reducible apply os_storeAgg);(iterate 5 exact rfl)))|((with_reducible apply ox_id);first|((with_reducible apply ox_alloc);exact rfl;intro _))|((with_reducible apply rd_id);first|(apply Rd.own;(repeat first|exact P0|apply P1);exact rfl;done)|(apply Rd.old;(first|(with_reducible assumption)|exact c0|exact c1|exact c2|exact c3|exact c4|exact c5|exact c6|exact c7|exact c8|exact d0|exact d1|exact d2|exact d3|exact d4|exact d5);first|exact List.not_mem_nil|exact m0|exact m1|exact m2|exact m3|exact m4|exact m5|exact m6|exact m7|exact m8|exact m9))|((with_reducible apply t_id);first|(with_reducible apply t_seq)|(apply t_region;kernel_rfl)|((with_reducible apply t_condT);exact rfl)|(with_reducible apply t_ret)|(with_reducible apply t_skip)|(with_reducible apply t_block))|with_reducible apply q_thenN|with_reducible apply q_thenR|with_reducible apply q_blockR|exact P0|exact Rdn.zero|apply Rdn.succ|((with_reducible apply Norm.nil);exact rfl)|((with_reducible apply Norm.cons);exact rfl)|(with_reducible apply end_ret)|exact rvs_nil|(with_reducible apply rvs_cons)|((with_reducible apply rv_tmp);exact rfl)|exact Nat.le_of_ble_eq_true rfl)
   all_goals rfl
 by_cases h2:min q.x q.y < -268435456
 · obtain rfl:bv=false:=by rw [← hbv];exact nearB_no hqm (by unfold Bd;omega)
   repeat' (first|((with_reducible apply oq_id);first|(focus ((with_reducible apply oq_indexAddrN);(iterate 4 exact rfl);omega))|((with_reducible apply oq_lssT);exact rfl;exact rfl;omega)|((with_reducible apply oq_gtrF);exact rfl;exact rfl;omega)|(apply oq_fn;exact rfl;first|exact trivial|(and_intros<;>omega)|omega|skip)|((with_reducible apply oq_load);exact rfl;exact rfl)|((with_reducible apply oq_loadAgg);exact rfl;exact rfl))|((with_reducible apply tl_id);first|(with_reducible apply tl_nil)|((with_reducible apply u_q);(iterate 4 exact rfl))|((with_reducible apply u_s0);exact rfl;exact rfl)|((with_reducible apply u_s);(iterate 3 exact rfl)))|((with_reducible apply os_id);first|((with_reducible apply os_x);exact rfl)|((with_reducible apply os_storeAgg);(iterate 5 exact rfl)))|((with_reducible apply ox_id);first|((with_reducible apply ox_alloc);exact rfl;intro _))|((with_reducible apply rd_id);first|(apply Rd.own;(repeat first|exact P0|apply P1);exact rfl;done)|(apply Rd.old;(first|(with_reducible assumption)|exact c0|exact c1|exact c2|exact c3|exact c4|exact c5|exact c6|exact c7|exact c8|exact d0|exact d1|exact d2|exact d3|exact d4|exact d5);first|exact List.not_mem_nil|exact m0|exact m1|exact m2|exact m3|exact m4|exact m5|exact m6|exact m7|exact m8|exact m9))|((with_reducible apply t_id);first|(with_reducible apply t_seq)|(apply t_region;kernel_rfl)|((with_reducible apply t_condT);exact rfl)|(with_reducible apply t_ret)|(with_reducible apply t_skip)|(with_reducible apply t_block))|with_reducible apply q_thenN|with_reducible apply q_thenR|with_reducible apply q_blockR|exact P0|exact Rdn.zero|apply Rdn.succ|((with_reducible apply Norm.nil);exact rfl)|((with_reducible apply Norm.cons);exact rfl)|(with_reducible apply end_ret)|exact rvs_nil|(with_reducible apply rvs_cons)|((with_reducible apply rv_tmp);exact rfl)|exact Nat.le_of_ble_eq_true rfl)
   all_goals rfl
 have hqb:Bd 268435456 q:=by unfold Bd;omega
 repeat' (first|((with_reducible apply oq_id);first|(focus ((with_reducible apply oq_indexAddrN);(iterate 4 exact rfl);omega))|(focus ((with_reducible apply (oq_addE (k:=((i+1:Nat):Int))));exact rfl;exact rfl;omega))|((with_reducible apply oq_lssT);exact rfl;exact rfl;omega)|((with_reducible apply oq_lssF);exact rfl;exact rfl;omega)|((with_reducible apply oq_gtrF);exact rfl;exact rfl;omega)|(apply oq_fn;exact rfl;first|exact trivial|(and_intros<;>omega)|omega|skip)|((with_reducible apply oq_load);exact rfl;exact rfl)|((with_reducible apply oq_loadAgg);exact rfl;exact rfl))|((with_reducible apply tl_id);first|(with_reducible apply tl_nil)|((with_reducible apply u_q);(iterate 4 exact rfl))|((with_reducible apply u_s0);exact rfl;exact rfl)|((with_reducible apply u_s);(iterate 3 exact rfl)))|((with_reducible apply os_id);first|((with_reducible apply os_x);exact rfl)|((with_reducible apply os_storeAgg);(iterate 5 exact rfl)))|((with_reducible apply ox_id);first|((with_reducible apply ox_alloc);exact rfl;intro _))|((with_reducible apply rd_id);first|(apply Rd.own;(repeat first|exact P0|apply P1);exact rfl;done)|(apply Rd.old;(first|(with_reducible assumption)|exact c0|exact c1|exact c2|exact c3|exact c4|exact c5|exact c6|exact c7|exact c8|exact d0|exact d1|exact d2|exact d3|exact d4|exact d5);first|exact List.not_mem_nil|exact m0|exact m1|exact m2|exact m3|exact m4|exact m5|exact m6|exact m7|exact m8|exact m9))|((with_reducible apply t_id);first|(with_reducible apply t_seq)|(apply t_region;kernel_rfl)|((with_reducible apply t_condT);exact rfl)|((with_reducible apply t_condF);exact rfl)|(with_reducible apply t_skip)|(with_reducible apply t_block))|with_reducible apply q_thenN|with_reducible apply q_blockN|exact P0|exact Rdn.zero|apply Rdn.succ|((with_reducible apply Norm.nil);exact rfl)|((with_reducible apply Norm.cons);exact rfl)|exact Nat.le_of_ble_eq_true rfl)
 all_goals (refine ⟨i+1,⟨by omega,fun j u hj hu=>?_⟩,by omega,?_,?_⟩<;>first|(rcases (show j<i∨j=i by omega) with k|rfl;exact hg j u k hu;(rw [hq] at hu;obtain rfl:=Option.some.inj hu;exact hqb))|(repeat' (first|exact FrSub.nil|(apply FrSub.cons;exact rfl)|exact HpSub.refl _|apply HpSub.skipX)))
theorem regions2_calls (A cA:Nat) (p p2:Option Addr) (n c n2 c2:Nat) (e2:Int) (w:World) (c0:w.cell? ⟨A,0,none⟩=some (.slice p n c)) (c1:w.cell? ⟨A,1,none⟩=some (.slice p2 n2 c2)) (k1:∀ w1,Ext w w1→Calls Try.prog 102 #[.slice p n c] w1 fun e w'=>e=.returned (.int .i64 0)∧Ext w1 w') (k2:∀ w1,Ext w w1→Calls Try.prog 102 #[.slice p2 n2 c2] w1 fun e w'=>e=.returned (.int .i64 e2)∧Ext w1 w') :
   Calls Try.prog 138 #[.slice (some ⟨A,0,none⟩) 2 cA] w fun e w'=>e=.returned (.int .i64 e2)∧Ext w w':=by
 refine enterQ (c:=cx w 18) Try.func138 rfl rfl rfl rfl ?_
 refine t_cut (ι:=Unit) (fun _=>[(0,.slice (some ⟨A,0,none⟩) 2 cA)]) (fun _=>([]:Hp)) (fun _=>True) ?_ ?_
 · repeat' (first|((with_reducible apply oq_id);first|(apply oq_fn;exact rfl;first|exact trivial|(and_intros<;>omega)|omega|skip))|((with_reducible apply tl_id);first|(with_reducible apply tl_nil)|((with_reducible apply u_q);(iterate 4 exact rfl)))|((with_reducible apply t_id);first|(apply t_region;kernel_rfl)))
   all_goals exact ⟨by trivial,(),trivial,by (repeat' (first|exact FrSub.nil|(apply FrSub.cons;exact rfl))),by (repeat' (first|exact HpSub.refl _))⟩
 rintro ⟨⟩ -
 try dsimp only
 (with_reducible apply t_seq)
 refine t_cut (ι:=Unit) (fun _=>[(6,.slice (some ⟨A,0,none⟩) 2 cA),(7,.int .i64 ((2:Nat):Int)),(8,.int .i64 ((0:Nat):Int))]) (fun _=>([]:Hp)) (fun _=>True) ?_ ?_
 · repeat' (first|((with_reducible apply oq_id);first|(apply oq_fn;exact rfl;first|exact trivial|(and_intros<;>omega)|omega|skip))|((with_reducible apply tl_id);first|(with_reducible apply tl_nil)|((with_reducible apply u_q);(iterate 4 exact rfl)))|((with_reducible apply t_id);first|(apply t_region;kernel_rfl)))
   all_goals exact ⟨by trivial,(),trivial,by (repeat' (first|exact FrSub.nil|(apply FrSub.cons;exact rfl))),by (repeat' (first|exact HpSub.refl _))⟩
 rintro ⟨⟩ -
 try dsimp only
 (with_reducible apply t_block)
 apply t_loopP (ι:=Nat) [6,7] (fun i=>[(8,.int .i64 ((i:Nat):Int))]) (fun _=>[]) (fun i=>i≤2∧(i=2→e2=0)) (fun i=>2-i) (0)
 (repeat (first|exact KeepF.nil|(apply KeepF.cons;exact rfl)|apply KeepF.skip))
 (repeat first|exact FrSub.nil|(apply FrSub.cons;exact rfl))
 (try simp only [List.cons_append,List.nil_append])
 (repeat' (first|exact HpSub.refl _))
 · exact ⟨Nat.zero_le _,fun h=>nomatch h⟩
 rintro i ⟨hi,hi2⟩
 try simp only [List.cons_append,List.nil_append]
 by_cases h2:i=2
 · obtain rfl:=hi2 h2
   repeat' (first|((with_reducible apply oq_id);first|((with_reducible apply oq_lssF);exact rfl;exact rfl;omega)|(apply oq_fn;exact rfl;first|exact trivial|(and_intros<;>omega)|omega|skip))|((with_reducible apply tl_id);first|(with_reducible apply tl_nil)|((with_reducible apply u_q);(iterate 4 exact rfl)))|((with_reducible apply t_id);first|(with_reducible apply t_seq)|(apply t_region;kernel_rfl)|((with_reducible apply t_condF);exact rfl)|(with_reducible apply t_ret)|(with_reducible apply t_exit))|with_reducible apply q_thenN|with_reducible apply q_thenE|((with_reducible apply q_blockE);exact rfl)|(with_reducible apply end_ret)|exact rvs_nil|(with_reducible apply rvs_cons)|((with_reducible apply rv_tmp);exact rfl))
   all_goals rfl
 by_cases h0:i=0
 · subst h0
   repeat' (first|((with_reducible apply oq_id);first|(focus ((with_reducible apply oq_indexAddrN);(iterate 4 exact rfl);omega))|(focus ((with_reducible apply (oq_addE (k:=((0+1:Nat):Int))));exact rfl;exact rfl;omega))|((with_reducible apply oq_lssT);exact rfl;exact rfl;omega)|((with_reducible apply oq_neqF);exact rfl;exact rfl;omega)|(apply oq_fn;exact rfl;first|exact trivial|(and_intros<;>omega)|omega|skip)|((with_reducible apply oq_load);exact rfl;exact rfl)|((with_reducible apply oq_call (hc:=Try.call102));exact rfl;exact rfl;exact fun D w1 hw1=>k1 w1 hw1.ext.ext))|((with_reducible apply tl_id);first|(with_reducible apply tl_nil)|((with_reducible apply u_q);(iterate 4 exact rfl)))|((with_reducible apply rd_id);first|(apply Rd.old;(first|(with_reducible assumption)|exact c0|exact c1|exact c2|exact c3|exact c4|exact c5|exact c6|exact c7|exact c8|exact d0|exact d1|exact d2|exact d3|exact d4|exact d5);first|exact List.not_mem_nil|exact m0|exact m1|exact m2|exact m3|exact m4|exact m5|exact m6|exact m7|exact m8|exact m9))|((with_reducible apply t_id);first|(with_reducible apply t_seq)|(apply t_region;kernel_rfl)|((with_reducible apply t_condT);exact rfl)|((with_reducible apply t_condF);exact rfl)|(with_reducible apply t_skip)|(with_reducible apply t_block))|with_reducible apply q_thenN|with_reducible apply q_blockN)
   all_goals (refine ⟨0+1,⟨by omega,fun h=>nomatch h⟩,by omega,?_,?_⟩<;>(repeat' (first|exact FrSub.nil|(apply FrSub.cons;exact rfl)|exact HpSub.refl _)))
 · obtain rfl:i=1:=by omega
   by_cases he:e2=0
   · subst he
     repeat' (first|((with_reducible apply oq_id);first|(focus ((with_reducible apply oq_indexAddrN);(iterate 4 exact rfl);omega))|(focus ((with_reducible apply (oq_addE (k:=((1+1:Nat):Int))));exact rfl;exact rfl;omega))|((with_reducible apply oq_lssT);exact rfl;exact rfl;omega)|((with_reducible apply oq_neqF);exact rfl;exact rfl;omega)|(apply oq_fn;exact rfl;first|exact trivial|(and_intros<;>omega)|omega|skip)|((with_reducible apply oq_load);exact rfl;exact rfl)|((with_reducible apply oq_call (hc:=Try.call102));exact rfl;exact rfl;exact fun D w1 hw1=>k2 w1 hw1.ext.ext))|((with_reducible apply tl_id);first|(with_reducible apply tl_nil)|((with_reducible apply u_q);(iterate 4 exact rfl)))|((with_reducible apply rd_id);first|(apply Rd.old;(first|(with_reducible assumption)|exact c0|exact c1|exact c2|exact c3|exact c4|exact c5|exact c6|exact c7|exact c8|exact d0|exact d1|exact d2|exact d3|exact d4|exact d5);first|exact List.not_mem_nil|exact m0|exact m1|exact m2|exact m3|exact m4|exact m5|exact m6|exact m7|exact m8|exact m9))|((with_reducible apply t_id);first|(with_reducible apply t_seq)|(apply t_region;kernel_rfl)|((with_reducible apply t_condT);exact rfl)|((with_reducible apply t_condF);exact rfl)|(with_reducible apply t_skip)|(with_reducible apply t_block))|with_reducible apply q_thenN|with_reducible apply q_blockN)
     all_goals (refine ⟨1+1,⟨by omega,fun _=>rfl⟩,by omega,?_,?_⟩<;>(repeat' (first|exact FrSub.nil|(apply FrSub.cons;exact rfl)|exact HpSub.refl _)))
   · repeat' (first|((with_reducible apply oq_id);first|(focus ((with_reducible apply oq_indexAddrN);(iterate 4 exact rfl);omega))|((with_reducible apply oq_lssT);exact rfl;exact rfl;omega)|((with_reducible apply oq_neqT);exact rfl;exact rfl;omega)|(apply oq_fn;exact rfl;first|exact trivial|(and_intros<;>omega)|omega|skip)|((with_reducible apply oq_load);exact rfl;exact rfl)|((with_reducible apply oq_call (hc:=Try.call102));exact rfl;exact rfl;exact fun D w1 hw1=>k2 w1 hw1.ext.ext))|((with_reducible apply tl_id);first|(with_reducible apply tl_nil)|((with_reducible apply u_q);(iterate 4 exact rfl)))|((with_reducible apply rd_id);first|(apply Rd.old;(first|(with_reducible assumption)|exact c0|exact c1|exact c2|exact c3|exact c4|exact c5|exact c6|exact c7|exact c8|exact d0|exact d1|exact d2|exact d3|exact d4|exact d5);first|exact List.not_mem_nil|exact m0|exact m1|exact m2|exact m3|exact m4|exact m5|exact m6|exact m7|exact m8|exact m9))|((with_reducible apply t_id);first|(with_reducible apply t_seq)|(apply t_region;kernel_rfl)|((with_reducible apply t_condT);exact rfl)|(with_reducible apply t_ret)|(with_reducible apply t_skip)|(with_reducible apply t_block))|with_reducible apply q_thenN|with_reducible apply q_thenR|with_reducible apply q_blockR|(with_reducible apply end_ret)|exact rvs_nil|(with_reducible apply rvs_cons)|((with_reducible apply rv_tmp);exact rfl))
     all_goals rfl
theorem mul_bd {a b:Int} (ha : -1073741824≤a∧a≤1073741824) (hb : -268435456≤b∧b≤268435456) : -288230376151711744≤a*b∧a*b≤288230376151711744:=by
 have h1:=Int.mul_nonneg (show 0≤1073741824-a by omega) (show 0≤268435456-b by omega)
 have h2:=Int.mul_nonneg (show 0≤1073741824+a by omega) (show 0≤268435456+b by omega)
 have h3:=Int.mul_nonneg (show 0≤1073741824-a by omega) (show 0≤268435456+b by omega)
 have h4:=Int.mul_nonneg (show 0≤1073741824+a by omega) (show 0≤268435456-b by omega)
 have e1:(1073741824-a)*(268435456-b)=1073741824*268435456-1073741824*b-268435456*a+a*b:=by rw [Int.sub_mul,Int.mul_sub,Int.mul_sub,Int.mul_comm a 268435456];omega
 have e2:(1073741824+a)*(268435456+b)=1073741824*268435456+1073741824*b+268435456*a+a*b:=by rw [Int.add_mul,Int.mul_add,Int.mul_add,Int.mul_comm a 268435456];omega
 have e3:(1073741824-a)*(268435456+b)=1073741824*268435456+1073741824*b-268435456*a-a*b:=by rw [Int.sub_mul,Int.mul_add,Int.mul_add,Int.mul_comm a 268435456];omega
 have e4:(1073741824+a)*(268435456-b)=1073741824*268435456-1073741824*b+268435456*a-a*b:=by rw [Int.add_mul,Int.mul_sub,Int.mul_sub,Int.mul_comm a 268435456];omega
 omega
theorem along_calls (p:Addr) (n c:Nat) (L:List Pv) (hl:L.length=n) (hn:n≤1000000) (hb:∀ q∈L,Bd 268435456 q) (dx dy:Int) (hdx : -1073741824≤dx∧dx≤1073741824) (hdy : -1073741824≤dy∧dy≤1073741824) (w:World) (hr:RdS w 2 (some p) n (L.map (coC Pv.x Pv.y))) :
   Calls Try.prog 104 #[.slice (some p) n c,.int .i64 dx,.int .i64 dy] w fun e w'=>e=.returned (.tuple #[.int .i64 (lmK ⟨dx,dy⟩ L n).1,.int .i64 (lmK ⟨dx,dy⟩ L n).2])∧Ext w w':=by
 refine enterQ (c:=cx w 40) Try.func104 rfl rfl rfl rfl ?_
 refine t_cut (ι:=Unit) (fun _=>[(0,.slice (some p) n c),(1,.int .i64 dx),(2,.int .i64 dy),(6,.int .i64 0),(7,.int .i64 0)]) (fun _=>([]:Hp)) (fun _=>True) ?_ ?_
 · repeat' (first|((with_reducible apply oq_id);first|(apply oq_fn;exact rfl;first|exact trivial|(and_intros<;>omega)|omega|skip))|((with_reducible apply tl_id);first|(with_reducible apply tl_nil)|((with_reducible apply u_q);(iterate 4 exact rfl)))|((with_reducible apply t_id);first|(apply t_region;kernel_rfl)))
   all_goals exact ⟨by trivial,(),trivial,by (repeat' (first|exact FrSub.nil|(apply FrSub.cons;exact rfl))),by (repeat' (first|exact HpSub.refl _))⟩
 rintro ⟨⟩ -
 try dsimp only
 (with_reducible apply t_seq)
 refine t_cut (ι:=Unit) (fun _=>[(1,.int .i64 dx),(2,.int .i64 dy),(6,.int .i64 0),(7,.int .i64 0),(11,.slice (some p) n c),(12,.int .i64 ((n:Nat):Int)),(13,.int .i64 ((0:Nat):Int))]) (fun _=>([]:Hp)) (fun _=>True) ?_ ?_
 · repeat' (first|((with_reducible apply oq_id);first|(apply oq_fn;exact rfl;first|exact trivial|(and_intros<;>omega)|omega|skip))|((with_reducible apply tl_id);first|(with_reducible apply tl_nil)|((with_reducible apply u_q);(iterate 4 exact rfl)))|((with_reducible apply t_id);first|(apply t_region;kernel_rfl)))
   all_goals exact ⟨by trivial,(),trivial,by (repeat' (first|exact FrSub.nil|(apply FrSub.cons;exact rfl))),by (repeat' (first|exact HpSub.refl _))⟩
 rintro ⟨⟩ -
 try dsimp only
 (with_reducible apply t_block)
 apply t_loopP (ι:=Nat) [1,2,11,12,38,39] (fun i=>[(13,.int .i64 ((i:Nat):Int)),(6,.int .i64 (lmK ⟨dx,dy⟩ L i).1),(7,.int .i64 (lmK ⟨dx,dy⟩ L i).2)]) (fun _=>[]) (fun i=>i≤n) (fun i=>n-i) (0)
 (repeat (first|exact KeepF.nil|(apply KeepF.cons;exact rfl)|apply KeepF.skip))
 (repeat first|exact FrSub.nil|(apply FrSub.cons;exact rfl))
 (try simp only [List.cons_append,List.nil_append])
 (repeat' (first|exact HpSub.refl _))
 · exact Nat.zero_le _
 rintro i hi
 try simp only [List.cons_append,List.nil_append]
 by_cases hlt:i<n
 rotate_left
 · obtain rfl:i=n:=by omega
   repeat' (first|((with_reducible apply oq_id);first|((with_reducible apply oq_lssF);exact rfl;exact rfl;omega)|(apply oq_fn;exact rfl;first|exact trivial|(and_intros<;>omega)|omega|skip))|((with_reducible apply tl_id);first|(with_reducible apply tl_nil)|((with_reducible apply u_q);(iterate 4 exact rfl)))|((with_reducible apply t_id);first|(with_reducible apply t_seq)|(apply t_region;kernel_rfl)|((with_reducible apply t_condF);exact rfl)|(with_reducible apply t_ret)|(with_reducible apply t_exit))|with_reducible apply q_thenN|with_reducible apply q_thenE|((with_reducible apply q_blockE);exact rfl)|(with_reducible apply end_ret)|exact rvs_nil|(with_reducible apply rvs_cons)|((with_reducible apply rv_tmp);exact rfl))
   all_goals rfl
 obtain ⟨B,O,e,_,hc⟩:=hr.at_ (by omega)
 obtain rfl:=Option.some.inj e
 obtain ⟨q,hq⟩:∃ x,L[i]?=some x:=⟨_,List.getElem?_eq_getElem (by omega)⟩
 have hqb:=hb q (List.mem_of_getElem? hq)
 unfold Bd at hqb
 have hrow:(L.map (coC Pv.x Pv.y))[i]?=some [.int .i64 q.x,.int .i64 q.y]:=by rw [List.getElem?_map,hq];rfl
 have c0:=(hc i _ hrow).2 0 _ rfl
 have c1:=(hc i _ hrow).2 1 _ rfl
 have k1:=mul_bd hdx hqb.1
 have k2:=mul_bd hdy hqb.2
 have g1:InR (dx*q.x):=⟨by omega,by omega⟩
 have g2:InR (dy*q.y):=⟨by omega,by omega⟩
 have hs:=lmK_succ (d:=⟨dx,dy⟩) hq
 have hdot:Pv.dot ⟨dx,dy⟩ q=dx*q.x+dy*q.y:=rfl
 obtain ⟨v,hv⟩:∃ v,dx*q.x+dy*q.y=v:=⟨_,rfl⟩
 rw [hdot,hv] at hs
 by_cases h0:i=0
 · subst h0
   rw [if_pos rfl] at hs
   obtain ⟨⟨p1,p2⟩,hp⟩:∃ p,lmK ⟨dx,dy⟩ L 0=p:=⟨_,rfl⟩
   simp only [hp]
   repeat' (first|((with_reducible apply oq_id);first|(focus ((with_reducible apply oq_indexAddrN (i:=0));(iterate 4 exact rfl);omega))|(focus ((with_reducible apply (oq_addE (k:=((0+1:Nat):Int))));exact rfl;exact rfl;omega))|((with_reducible apply oq_mul);exact rfl;exact rfl;(first|exact g1|exact g2))|((with_reducible apply (oq_addE (k:=v)));exact rfl;exact rfl;omega)|((with_reducible apply oq_lssT);exact rfl;exact rfl;omega)|((with_reducible apply oq_eqlT);exact rfl;exact rfl;omega)|(apply oq_fn;exact rfl;first|exact trivial|(and_intros<;>omega)|omega|skip)|((with_reducible apply oq_load);exact rfl;exact rfl)|((with_reducible apply oq_loadAgg);exact rfl;exact rfl))|((with_reducible apply tl_id);first|(with_reducible apply tl_nil)|((with_reducible apply u_q);(iterate 4 exact rfl))|((with_reducible apply u_s0);exact rfl;exact rfl)|((with_reducible apply u_s);(iterate 3 exact rfl)))|((with_reducible apply os_id);first|((with_reducible apply os_x);exact rfl)|((with_reducible apply os_storeAgg);(iterate 5 exact rfl)))|((with_reducible apply ox_id);first|((with_reducible apply ox_alloc);exact rfl;intro _))|((with_reducible apply rd_id);first|(apply Rd.own;(repeat first|exact P0|apply P1);exact rfl;done)|(apply Rd.old;(first|(with_reducible assumption)|exact c0|exact c1|exact c2|exact c3|exact c4|exact c5|exact c6|exact c7|exact c8|exact d0|exact d1|exact d2|exact d3|exact d4|exact d5);first|exact List.not_mem_nil|exact m0|exact m1|exact m2|exact m3|exact m4|exact m5|exact m6|exact m7|exact m8|exact m9))|((with_reducible apply t_id);first|(with_reducible apply t_seq)|(apply t_region;kernel_rfl)|((with_reducible apply t_condT);exact rfl)|(with_reducible apply t_skip)|(with_reducible apply t_block))|with_reducible apply q_thenN|with_reducible apply q_blockN|exact P0|exact Rdn.zero|apply Rdn.succ|((with_reducible apply Norm.nil);exact rfl)|((with_reducible apply Norm.cons);exact rfl)|exact Nat.le_of_ble_eq_true rfl)
   all_goals (refine ⟨0+1,by omega,by omega,?_,?_⟩<;>(try simp only [hs,Int.min_self,Int.max_self])<;>(repeat' (first|exact FrSub.nil|(apply FrSub.cons;exact rfl)|exact HpSub.refl _|apply HpSub.skipX)))
 · rw [if_neg h0] at hs
   obtain ⟨⟨p1,p2⟩,hp⟩:∃ p,lmK ⟨dx,dy⟩ L i=p:=⟨_,rfl⟩
   rw [hp] at hs
   simp only [hp]
   repeat' (first|((with_reducible apply oq_id);first|(focus ((with_reducible apply oq_indexAddrN (i:=i));(iterate 4 exact rfl);omega))|(focus ((with_reducible apply (oq_addE (k:=((i+1:Nat):Int))));exact rfl;exact rfl;omega))|((with_reducible apply oq_mul);exact rfl;exact rfl;(first|exact g1|exact g2))|((with_reducible apply (oq_addE (k:=v)));exact rfl;exact rfl;omega)|((with_reducible apply oq_lssT);exact rfl;exact rfl;omega)|((with_reducible apply oq_eqlF);exact rfl;exact rfl;omega)|(apply oq_fn;exact rfl;first|exact trivial|(and_intros<;>omega)|omega|skip)|((with_reducible apply oq_load);exact rfl;exact rfl)|((with_reducible apply oq_loadAgg);exact rfl;exact rfl))|((with_reducible apply tl_id);first|(with_reducible apply tl_nil)|((with_reducible apply u_q);(iterate 4 exact rfl))|((with_reducible apply u_s0);exact rfl;exact rfl)|((with_reducible apply u_s);(iterate 3 exact rfl)))|((with_reducible apply os_id);first|((with_reducible apply os_x);exact rfl)|((with_reducible apply os_storeAgg);(iterate 5 exact rfl)))|((with_reducible apply ox_id);first|((with_reducible apply ox_alloc);exact rfl;intro _))|((with_reducible apply rd_id);first|(apply Rd.own;(repeat first|exact P0|apply P1);exact rfl;done)|(apply Rd.old;(first|(with_reducible assumption)|exact c0|exact c1|exact c2|exact c3|exact c4|exact c5|exact c6|exact c7|exact c8|exact d0|exact d1|exact d2|exact d3|exact d4|exact d5);first|exact List.not_mem_nil|exact m0|exact m1|exact m2|exact m3|exact m4|exact m5|exact m6|exact m7|exact m8|exact m9))|((with_reducible apply t_id);first|(with_reducible apply t_seq)|(apply t_region;kernel_rfl)|((with_reducible apply t_condT);exact rfl)|((with_reducible apply t_condF);exact rfl)|(with_reducible apply t_skip)|(with_reducible apply t_block))|with_reducible apply q_thenN|with_reducible apply q_blockN|exact P0|exact Rdn.zero|apply Rdn.succ|((with_reducible apply Norm.nil);exact rfl)|((with_reducible apply Norm.cons);exact rfl)|exact Nat.le_of_ble_eq_true rfl)
   all_goals (refine ⟨i+1,by omega,by omega,?_,?_⟩<;>(try simp only [hs])<;>(repeat' (first|exact FrSub.nil|(apply FrSub.cons;exact rfl)|exact HpSub.refl _|apply HpSub.skipX)))
theorem straight_calls (dx dy:Int) (hdx : -1073741824≤dx∧dx≤1073741824) (hdy : -1073741824≤dy∧dy≤1073741824) (w:World):Calls Try.prog 103 #[.int .i64 dx,.int .i64 dy] w fun e w'=>e=.returned (.bool true)∧Ext w w':=by
 refine enterQ (c:=cx w 15) Try.func103 rfl rfl rfl rfl ?_
 repeat' (first|((with_reducible apply oq_id);first|((with_reducible apply oq_leqT);exact rfl;exact rfl;omega)|((with_reducible apply oq_geqT);exact rfl;exact rfl;omega)|(apply oq_fn;exact rfl;first|exact trivial|(and_intros<;>omega)|omega|skip))|((with_reducible apply tl_id);first|(with_reducible apply tl_nil)|((with_reducible apply u_q);(iterate 4 exact rfl)))|((with_reducible apply t_id);first|(with_reducible apply t_seq)|(apply t_region;kernel_rfl)|(with_reducible apply t_ret))|with_reducible apply q_thenN|(with_reducible apply end_ret)|exact rvs_nil|(with_reducible apply rvs_cons)|((with_reducible apply rv_tmp);exact rfl))
 all_goals rfl
structure RgOk (L:List Pv):Prop where
 rg:∃ a E F,Rg L a E F
 bd:∀ q∈L,Bd 268435456 q
 len:L.length<50
theorem RgOk.check {L:List Pv} (h:RgOk L) (p:Addr) (n c:Nat) (hl:L.length=n) (w:World) (hr:RdS w 2 (some p) n (L.map (coC Pv.x Pv.y))):Calls Try.prog 102 #[.slice (some p) n c] w fun e w'=>e=.returned (.int .i64 0)∧Ext w w':=by
 obtain ⟨a,E,F,rg⟩:=h.rg
 have h1:=List.length_pos_iff.2 rg.ne_nil
 have h2:=h.len
 exact checkR_calls p n c L hl (by omega) (by omega) h.bd (fun D h1 h2=>hul_idem rg h1 h2) w hr
theorem reach_calls (p:Addr) (n c:Nat) (L:List Pv) (hl:L.length=n) (h:RgOk L) (dx dy:Int) (hdx : -1073741824≤dx∧dx≤1073741824) (hdy : -1073741824≤dy∧dy≤1073741824) (w:World) (hr:RdS w 2 (some p) n (L.map (coC Pv.x Pv.y))) :
   Calls Try.prog 42 #[.slice (some p) n c,.int .i64 dx,.int .i64 dy] w fun e w'=>e=.returned (.tuple #[.int .i64 (lmK ⟨dx,dy⟩ L n).2,.int .i64 0])∧Ext w w':=by
 have h2:=h.len
 refine enterQ (c:=cx w 28) Try.func42 rfl rfl rfl rfl ?_
 repeat' (first|((with_reducible apply oq_id);first|((with_reducible apply oq_neqF);exact rfl;exact rfl;omega)|(apply oq_fn;exact rfl;first|exact trivial|(and_intros<;>omega)|omega|skip)|((with_reducible apply oq_call (hc:=Try.call102));exact rfl;exact rfl;exact fun D w1 hw1=>h.check p n c hl w1 (hr.ext hw1.ext.ext))|((with_reducible apply oq_call (hc:=Try.call103));exact rfl;exact rfl;exact fun D w1 hw1=>straight_calls dx dy hdx hdy w1)|((with_reducible apply oq_call (hc:=Try.call104));exact rfl;exact rfl;exact fun D w1 hw1=>along_calls p n c L hl (by omega) h.bd dx dy hdx hdy w1 (hr.ext hw1.ext.ext)))|((with_reducible apply tl_id);first|(with_reducible apply tl_nil)|((with_reducible apply u_q);(iterate 4 exact rfl)))|((with_reducible apply t_id);first|(with_reducible apply t_seq)|(apply t_region;kernel_rfl)|((with_reducible apply t_condF);exact rfl)|(with_reducible apply t_ret)|(with_reducible apply t_skip))|with_reducible apply q_thenN|(with_reducible apply end_ret)|exact rvs_nil|(with_reducible apply rvs_cons)|((with_reducible apply rv_tmp);exact rfl))
 all_goals rfl
theorem checkNil_calls (w:World):Calls Try.prog 102 #[.slice none 0 0] w fun e w'=>e=.returned (.int .i64 14)∧Ext w w':=by
 refine enterQ (c:=cx w 23) Try.func102 rfl rfl rfl rfl ?_
 repeat' (first|((with_reducible apply oq_id);first|((with_reducible apply oq_lssT);exact rfl;exact rfl;omega)|(apply oq_fn;exact rfl;first|exact trivial|(and_intros<;>omega)|omega|skip))|((with_reducible apply tl_id);first|(with_reducible apply tl_nil)|((with_reducible apply u_q);(iterate 4 exact rfl))|((with_reducible apply u_skip);(iterate 3 exact rfl)))|((with_reducible apply t_id);first|(with_reducible apply t_seq)|(apply t_region;kernel_rfl)|((with_reducible apply t_condT);exact rfl)|(with_reducible apply t_ret))|with_reducible apply q_thenN|with_reducible apply q_thenR|(with_reducible apply end_ret)|exact rvs_nil|(with_reducible apply rvs_cons)|((with_reducible apply rv_tmp);exact rfl))
 all_goals rfl
theorem hullFar_calls (p:Addr) (n c:Nat) (L:List Pv) (hl:L.length=n) (h1:1≤n) (hn:n<50) (hb:nearB L=false) (w:World) (hr:RdS w 2 (some p) n (L.map (coC Pv.x Pv.y))) :
   Calls Try.prog 96 #[.slice (some p) n c] w fun e w'=>e=.returned (.tuple #[.slice none 0 0,.int .i64 2])∧Ext w w':=by
 have HN:=fun w1 (e:Ext w w1)=>nearB_calls p n c L hl (by omega) w1 (hr.ext e)
 rw [hb] at HN
 refine enterQ (c:=cx w 19) Try.func96 rfl rfl rfl rfl ?_
 repeat' (first|((with_reducible apply oq_id);first|((with_reducible apply oq_gtrF);exact rfl;exact rfl;omega)|((with_reducible apply oq_lssF);exact rfl;exact rfl;omega)|(apply oq_fn;exact rfl;first|exact trivial|(and_intros<;>omega)|omega|skip)|((with_reducible apply oq_call (hc:=Try.call108));exact rfl;exact rfl;exact fun D w1 hw1=>HN w1 hw1.ext.ext))|((with_reducible apply tl_id);first|(with_reducible apply tl_nil)|((with_reducible apply u_q);(iterate 4 exact rfl)))|((with_reducible apply t_id);first|(with_reducible apply t_seq)|(apply t_region;kernel_rfl)|((with_reducible apply t_condT);exact rfl)|((with_reducible apply t_condF);exact rfl)|(with_reducible apply t_ret)|(with_reducible apply t_block))|with_reducible apply q_thenN|with_reducible apply q_thenR|with_reducible apply q_blockR|(with_reducible apply end_ret)|exact rvs_nil|(with_reducible apply rvs_cons)|((with_reducible apply rv_tmp);exact rfl))
 all_goals rfl
theorem edges143_P (v:Value) (A:Option Addr) (n c:Nat) (hv:v=.slice A n c) (w:World):Calls Try.prog 143 #[v] w fun e w'=>∃ u H',e=.returned u∧(∃ b0,u=.func (.func 172) #[] #[.pointer (some ⟨b0,0,none⟩)]∧H'=[(b0,[v],some (101,1,1))])∧Has w ⟨[],[]⟩ H' w':=by
 subst hv
 refine enterF (c:=cx w 4) Try.func143 rfl rfl rfl rfl ?_
 repeat' (first|((with_reducible apply oq_id);first|(apply oq_fn;exact rfl;first|exact trivial|(and_intros<;>omega)|omega|skip))|((with_reducible apply tl_id);first|(with_reducible apply tl_nil)|((with_reducible apply u_q);(iterate 4 exact rfl))|((with_reducible apply u_s);(iterate 3 exact rfl)))|((with_reducible apply os_id);first|((with_reducible apply os_x);exact rfl))|((with_reducible apply ox_id);first|((with_reducible apply ox_box);exact rfl;exact rfl;intro _))|((with_reducible apply t_id);first|(with_reducible apply t_seq)|(apply t_region;kernel_rfl)|(with_reducible apply t_ret))|with_reducible apply q_thenN|(with_reducible apply end_ret)|exact rvs_nil|(with_reducible apply rvs_cons)|((with_reducible apply rv_tmp);exact rfl))
 all_goals exact ⟨_,⟨_,rfl,rfl⟩,by (repeat' (first|exact HpSub.refl _))⟩
theorem holds_calls (pb po n c:Nat) (L:List Pv) (hl:L.length=n) (hn:n≤1000000) (hb:∀ q∈L,Bd 268435456 q) (p:Pv) (hp:Bd 268435456 p) (HO:∀ x:Ed L,x.1.2.1≠p→outB n (Pv.sub x.1.2.2 x.1.2.1) (Pv.sub p x.1.2.1)=false) (h1:n≤1→∃ x∈eds L L.length,x.1.2.1=p) (w:World) (hr:RdS w 2 (some ⟨pb,po,none⟩) n (L.map (coC Pv.x Pv.y))) (hpw:pb<w.heap.size) :
   Calls Try.prog 109 #[.slice (some ⟨pb,po,none⟩) n c,.agg #[.int .i64 p.x,.int .i64 p.y]] w fun e w'=>e=.returned (.bool true)∧Ext w w':=by
 refine enterQ (c:=cx w 83) Try.func109 rfl rfl rfl rfl ?_
 refine t_cut (ι:=Nat×Nat×Nat) (fun z=>[(2,.pointer (some ⟨z.1,0,none⟩)),(3,.pointer (some ⟨z.2.1,0,none⟩)),(4,.pointer (some ⟨z.2.2,0,none⟩))]) (fun z=>[(z.1,[.slice (some ⟨pb,po,none⟩) n c],some (101,1,1)),(z.2.1,[.int .i64 p.x,.int .i64 p.y],some (111,2,1)),(z.2.2,[.bool false],some (4,1,1))]) (fun _=>True) ?_ ?_
 · repeat' (first|((with_reducible apply tl_id);first|(with_reducible apply tl_nil)|((with_reducible apply u_s);(iterate 3 exact rfl)))|((with_reducible apply os_id);first|((with_reducible apply os_x);exact rfl))|((with_reducible apply ox_id);first|((with_reducible apply ox_alloc);exact rfl;intro _)|((with_reducible apply ox_box);exact rfl;exact rfl;intro _)|((with_reducible apply ox_boxAgg);exact rfl;intro _))|((with_reducible apply t_id);first|(apply t_region;kernel_rfl)))
   all_goals exact ⟨by trivial,(_,_,_),trivial,by (repeat' (first|exact FrSub.nil|(apply FrSub.cons;exact rfl))),by (repeat' (first|exact HpSub.refl _|(apply HpSub.consE;(repeat first|exact P0|apply P1);first|exact rfl|(simp;done))))⟩
 rintro ⟨b2,b3,b4⟩ -
 try dsimp only
 (with_reducible apply t_seq)
 refine t_cut (ι:=Nat) (fun b0=>[(2,.pointer (some ⟨b2,0,none⟩)),(3,.pointer (some ⟨b3,0,none⟩)),(4,.pointer (some ⟨b4,0,none⟩)),(11,.func (.func 172) #[] #[.pointer (some ⟨b0,0,none⟩)])]) (fun b0=>[(b2,[.slice (some ⟨pb,po,none⟩) n c],some (101,1,1)),(b3,[.int .i64 p.x,.int .i64 p.y],some (111,2,1)),(b4,[.bool false],some (4,1,1)),(b0,[.slice (some ⟨pb,po,none⟩) n c],some (101,1,1))]) (fun _=>True) ?_ ?_
 · repeat' (first|((with_reducible apply oq_id);first|((with_reducible apply oq_load);exact rfl;exact rfl))|((with_reducible apply tl_id);first|(with_reducible apply tl_nil)|((with_reducible apply u_s);(iterate 3 exact rfl);(with_reducible apply os_callF (PV:=fun u H'=>∃ b0,u=.func (.func 172) #[] #[.pointer (some ⟨b0,0,none⟩)]∧H'=[(b0,[.slice (some ⟨pb,po,none⟩) n c],some (101,1,1))]) (hc:=Try.call143));exact rfl;exact rfl;exact fun D w1 hw1=>edges143_P _ _ n c rfl w1;rintro _ _ ⟨b0,rfl,rfl⟩;simp only [List.cons_append,List.nil_append])|((with_reducible apply u_q);(iterate 4 exact rfl)))|((with_reducible apply rd_id);first|(apply Rd.own;(repeat first|exact P0|apply P1);exact rfl;done))|((with_reducible apply t_id);first|(apply t_region;kernel_rfl)))
   all_goals exact ⟨by trivial,b0,trivial,by (repeat' (first|exact FrSub.nil|(apply FrSub.cons;exact rfl))),by (repeat' (first|exact HpSub.refl _|(apply HpSub.consE;(repeat first|exact P0|apply P1);first|exact rfl|(simp;done))))⟩
 rintro b0 -
 try dsimp only
 (with_reducible apply t_block)
 refine t_range (m:=1) (N:=L.length) (α:=Ed L) (β:=Nat×Nat) (ι:=Unit) (κ:=Unit) (S:=fun ys=>ys=eds L L.length) (Sp:=fun pre=>pre <+: eds L L.length)
   (encs:=fun x=>[.agg ⟨[.int .i64 x.1.2.1.x,.int .i64 x.1.2.1.y]⟩,.agg ⟨[.int .i64 x.1.2.2.x,.int .i64 x.1.2.2.y]⟩])
   (hk:=[(b2,[.slice (some ⟨pb,po,none⟩) n c],some (101,1,1)),(b3,[.int .i64 p.x,.int .i64 p.y],some (111,2,1)),(b0,[.slice (some ⟨pb,po,none⟩) n c],some (101,1,1))])
   (fun _=>[(b4,[.bool false],some (4,1,1))]) (fun pre _=>∀ x∈pre,x.1.2.1≠p) (fun x b=>[(b.2,[.int .i64 x.1.2.2.x,.int .i64 x.1.2.2.y],some (111,2,1)),(b.1,[.int .i64 x.1.2.1.x,.int .i64 x.1.2.1.y],some (111,2,1))])
   (fun x b=>[(5,.pointer (some ⟨b.1,0,none⟩)),(6,.pointer (some ⟨b.2,0,none⟩)),(2,.pointer (some ⟨b2,0,none⟩)),(3,.pointer (some ⟨b3,0,none⟩)),(4,.pointer (some ⟨b4,0,none⟩))]) (fun _=>[(b4,[.bool true],some (4,1,1))]) (fun k pre _=>k=.ret) () rfl Try.call172 ?seq (fun x hx=>(List.not_mem_nil hx).elim) ?sub ?ok ?done ?stop
 case sub=>
   simp only [List.cons_append,List.nil_append]
   (repeat' (first|exact HpSub.refl _|(apply HpSub.consE;(repeat first|exact P0|apply P1);first|exact rfl|(simp;done))))
 case seq=>
   intro D w1 hw1
   have hx:Ext w w1:=hw1.ext.ext
   exact edges_stops 2 (by omega) b0 pb po n c L hn _ (.inr (by simp)) (.inl ⟨hpw,List.not_mem_nil⟩) w1 ⟨hr.ext hx,hw1.cellAt (by (repeat first|exact P0|apply P1)) rfl⟩
 case ok=>
   refine ⟨fun _=>rfl,rfl,fun x W=>?_,fun x b i k W D hb hw hns y hy z hz=>?_,fun l' pre x i b W D hi hw hlt hl'=>?_,fun x b=>NoM.some (NoM.some NoM.nil rfl) rfl,fun _=>NoM.some NoM.nil rfl,NoM.some (NoM.some (NoM.some NoM.nil rfl) rfl) rfl,fun _=>NoM.some NoM.nil rfl⟩
   · refine sl0_seq (sl0_region (by kernel_rfl) ?_)
     repeat' (first|((with_reducible apply tl_id);first|(with_reducible apply tl_nil)|((with_reducible apply u_s0);exact rfl;exact rfl)|((with_reducible apply u_s);(iterate 3 exact rfl)))|((with_reducible apply os_id);first|((with_reducible apply os_x);exact rfl)|((with_reducible apply os_storeAgg);(iterate 5 exact rfl)))|((with_reducible apply ox_id);first|((with_reducible apply ox_alloc);exact rfl;intro _))|exact P0|((with_reducible apply Norm.nil);exact rfl)|((with_reducible apply Norm.cons);exact rfl)|exact Nat.le_of_ble_eq_true rfl)
     refine sl0_region (by kernel_rfl) ?_
     repeat' (first|((with_reducible apply tl_id);first|(with_reducible apply tl_nil)|((with_reducible apply u_s0);exact rfl;exact rfl)|((with_reducible apply u_s);(iterate 3 exact rfl)))|((with_reducible apply os_id);first|((with_reducible apply os_x);exact rfl)|((with_reducible apply os_storeAgg);(iterate 5 exact rfl)))|((with_reducible apply ox_id);first|((with_reducible apply ox_alloc);exact rfl;intro _))|exact P0|((with_reducible apply Norm.nil);exact rfl)|((with_reducible apply Norm.cons);exact rfl)|exact Nat.le_of_ble_eq_true rfl)
     rename_i bi bx
     refine ⟨(bi,bx),?_,?_⟩
     · (repeat first|exact FrSub.nil|(apply FrSub.cons;exact rfl))
     · (repeat (first|exact HpSub.refl _|(apply HpSub.consE;(repeat first|exact P0|apply P1);exact rfl)|exact HpSub.nil))
   · have h1:z.1<k:=hns z.1 (by
       simp only [List.cons_append,List.nil_append,List.map_cons,List.map_nil,List.mem_cons,List.not_mem_nil,or_false] at hz ⊢
       rcases hz with rfl|rfl|rfl|rfl<;>simp)
     have h2:=(hb.blk y hy).1
     omega
   · have c0:W.cell? ⟨b3,0,none⟩=some (.int .i64 p.x):=hw.cellAt (by (repeat first|exact P0|apply P1)) rfl
     have c1:W.cell? ⟨b3,1,none⟩=some (.int .i64 p.y):=hw.cellAt (by (repeat first|exact P0|apply P1)) rfl
     have c2:W.cell? ⟨b2,0,none⟩=some (.slice (some ⟨pb,po,none⟩) n c):=hw.cellAt (by (repeat first|exact P0|apply P1)) rfl
     have m0:=hw.off (b:=b3) (by simp)
     have m1:=hw.off (b:=b2) (by simp)
     have HO':=HO x
     obtain ⟨⟨j,a,bb⟩,hxa,hxb⟩:=x
     obtain ⟨bi,bx⟩:=b
     simp only at hxa hxb HO' m0 m1 ⊢
     have hab:=hb a (List.mem_of_getElem? hxa)
     have hbb:=hb bb (List.mem_of_getElem? hxb)
     have S1:=fun w1=>step_calls a bb (by unfold Bd at *;omega) (by unfold Bd at *;omega) w1
     have S2:=fun w1=>step_calls a p (by unfold Bd at *;omega) (by unfold Bd at *;omega) w1
     have hu:Bd 536870912 (Pv.sub bb a):=by unfold Bd Pv.sub at *;simp only;omega
     have hv:Bd 536870912 (Pv.sub p a):=by unfold Bd Pv.sub at *;simp only;omega
     obtain ⟨u,hu0⟩:∃ u,Pv.sub bb a=u:=⟨_,rfl⟩
     obtain ⟨v,hv0⟩:∃ v,Pv.sub p a=v:=⟨_,rfl⟩
     rw [hu0] at S1 hu HO'
     rw [hv0] at S2 hv HO'
     change T (cxM _ W 83) _ _ _ _ _
     simp only [List.cons_append,List.nil_append] at m0 m1 ⊢
     by_cases hap:a=p
     · have hq:decide (a.x=p.x∧a.y=p.y)=true:=decide_eq_true (by rw [hap];exact ⟨rfl,rfl⟩)
       repeat' (first|((with_reducible apply oq_id);first|((with_reducible apply (oq_eq111 (q:=true)));exact rfl;exact rfl;exact hq)|((with_reducible apply oq_loadAgg);exact rfl;exact rfl))|((with_reducible apply tl_id);first|(with_reducible apply tl_nil)|((with_reducible apply u_q);(iterate 4 exact rfl))|((with_reducible apply u_s0);exact rfl;exact rfl))|((with_reducible apply os_id);first|((with_reducible apply os_store);(iterate 4 exact rfl)))|((with_reducible apply rd_id);first|(apply Rd.own;(repeat first|exact P0|apply P1);exact rfl;done)|(apply Rd.old;(first|(with_reducible assumption)|exact c0|exact c1|exact c2|exact c3|exact c4|exact c5|exact c6|exact c7|exact c8|exact d0|exact d1|exact d2|exact d3|exact d4|exact d5);first|exact List.not_mem_nil|exact m0|exact m1|exact m2|exact m3|exact m4|exact m5|exact m6|exact m7|exact m8|exact m9))|((with_reducible apply t_id);first|(with_reducible apply t_seq)|(apply t_region;kernel_rfl)|((with_reducible apply t_condT);exact rfl)|(with_reducible apply t_ret)|(with_reducible apply t_block))|with_reducible apply q_thenN|with_reducible apply q_thenR|with_reducible apply q_blockR|exact P0|(with_reducible apply P1)|exact Rdn.zero|apply Rdn.succ|((with_reducible apply Norm.nil);exact rfl)|((with_reducible apply Norm.cons);exact rfl)|exact Nat.le_of_ble_eq_true rfl)
       all_goals exact ⟨(),rfl,by (repeat' (first|exact HpSub.refl _|(apply HpSub.consE;(repeat first|exact P0|apply P1);first|exact rfl|(simp;done))|apply HpSub.skipX))⟩
     have hq:decide (a.x=p.x∧a.y=p.y)=false:=decide_eq_false fun h=>hap (by cases a;cases p;simp only at h;rw [Pv.mk.injEq];exact h)
     have hout:=HO' hap
     have T1:=fun w1=>turn_calls u v (by unfold Bd at *;omega) (by unfold Bd at *;omega) w1
     obtain ⟨t,ht0⟩:∃ t,Pv.turn u v=t:=⟨_,rfl⟩
     unfold outB at hout
     rw [ht0] at T1 hout
     have hout:=of_decide_eq_false hout
     unfold Bd at hu hv
     have k1:=mul_le' hv.1 hu.1
     have k2:=mul_le' hv.2 hu.2
     have k3:=mul_le' hv.1 hv.1
     have k4:=mul_le' hv.2 hv.2
     have k5:=mul_le' hu.1 hu.1
     have k6:=mul_le' hu.2 hu.2
     have g1:InR (v.x*u.x):=⟨by omega,by omega⟩
     have g2:InR (v.y*u.y):=⟨by omega,by omega⟩
     have g3:InR (v.x*v.x):=⟨by omega,by omega⟩
     have g4:InR (v.y*v.y):=⟨by omega,by omega⟩
     have g5:InR (u.x*u.x):=⟨by omega,by omega⟩
     have g6:InR (u.y*u.y):=⟨by omega,by omega⟩
     have hfin:∀ y∈pre++[(⟨(j,a,bb),hxa,hxb⟩:Ed L)],y.1.2.1≠p:=fun y hy=>by
       rcases List.mem_append.1 hy with hy|hy
       · exact hi y hy
       · rw [List.mem_singleton.1 hy];exact hap
     have ht1:¬ t<0:=fun h=>hout (.inl h)
     by_cases ht2:t=0
     · by_cases hn3:n<3
       · have hC:0≤v.x*u.x∧0≤v.y*u.y∧v.x*v.x≤u.x*u.x∧v.y*v.y≤u.y*u.y:=by
           refine Decidable.byContradiction fun h=>hout (.inr ⟨ht2,hn3,h⟩)
         obtain ⟨C1,C2,C3,C4⟩:=hC
         repeat' (first|((with_reducible apply oq_id);first|((with_reducible apply (oq_eq111 (q:=false)));exact rfl;exact rfl;exact hq)|((with_reducible apply oq_mul);exact rfl;exact rfl;(first|exact g1|exact g2|exact g3|exact g4|exact g5|exact g6))|((with_reducible apply oq_leqT);exact rfl;exact rfl;omega)|((with_reducible apply oq_geqT);exact rfl;exact rfl;omega)|((with_reducible apply oq_lssT);exact rfl;exact rfl;omega)|((with_reducible apply oq_lssF);exact rfl;exact rfl;omega)|((with_reducible apply oq_eqlT);exact rfl;exact rfl;omega)|(apply oq_fn;exact rfl;first|exact trivial|(and_intros<;>omega)|omega|skip)|((with_reducible apply oq_load);exact rfl;exact rfl)|((with_reducible apply oq_loadAgg);exact rfl;exact rfl)|((with_reducible apply oq_call (hc:=Try.call144));exact rfl;exact rfl;exact fun D w1 hw1=>S1 w1)|((with_reducible apply oq_call (hc:=Try.call144));exact rfl;exact rfl;exact fun D w1 hw1=>S2 w1)|((with_reducible apply oq_call (hc:=Try.call145));exact rfl;exact rfl;exact fun D w1 hw1=>T1 w1))|((with_reducible apply tl_id);first|(with_reducible apply tl_nil)|((with_reducible apply u_q);(iterate 4 exact rfl)))|((with_reducible apply gx_id);first|(with_reducible apply v_nil)|((with_reducible apply v_q);(iterate 3 exact rfl)))|((with_reducible apply os_id);first|((with_reducible apply os_storeAgg);(iterate 5 exact rfl)))|((with_reducible apply ox_id);first|((with_reducible apply ox_alloc);exact rfl;intro _))|((with_reducible apply ai_id);first|((with_reducible apply ai_x);(iterate 5 exact rfl))|((with_reducible apply ai_n0);(iterate 3 exact rfl)))|((with_reducible apply al_keep);focus (repeat (first|exact HpSub.refl _|(apply HpSub.cons;(repeat first|exact P0|apply P1))|apply HpSub.skipX|exact HpSub.nil)))|((with_reducible apply rd_id);first|(apply Rd.own;(repeat first|exact P0|apply P1);exact rfl;done)|(apply Rd.old;(first|(with_reducible assumption)|exact c0|exact c1|exact c2|exact c3|exact c4|exact c5|exact c6|exact c7|exact c8|exact d0|exact d1|exact d2|exact d3|exact d4|exact d5);first|exact List.not_mem_nil|exact m0|exact m1|exact m2|exact m3|exact m4|exact m5|exact m6|exact m7|exact m8|exact m9))|((with_reducible apply t_id);first|(apply t_mix (id:=6) [0,1,2,3,4,5] 4 #[false,false,false,false,false,false,false,false,false,false];kernel_rfl;kernel_rfl;exact rfl)|(with_reducible apply t_seq)|(apply t_region;kernel_rfl)|((with_reducible apply t_condF);exact rfl)|(with_reducible apply t_skip)|(with_reducible apply t_block))|with_reducible apply q_thenN|with_reducible apply q_blockN|exact P0|(with_reducible apply P1)|exact Rdn.zero|apply Rdn.succ|((with_reducible apply Norm.nil);exact rfl)|((with_reducible apply Norm.cons);exact rfl)|((with_reducible apply al_id);first|(apply al_done;decide +kernel)|(apply al_one 6;decide +kernel)|(apply al_one 7;decide +kernel)|(apply al_one 8;decide +kernel)|(apply al_one 9;decide +kernel)|(apply al_two 6 7;decide +kernel))|exact Nat.le_of_ble_eq_true rfl)
         all_goals exact ⟨(),hfin,by (repeat' (first|exact HpSub.refl _|(apply HpSub.consE;(repeat first|exact P0|apply P1);first|exact rfl|(simp;done))|apply HpSub.skipX))⟩
       · repeat' (first|((with_reducible apply oq_id);first|((with_reducible apply (oq_eq111 (q:=false)));exact rfl;exact rfl;exact hq)|((with_reducible apply oq_lssF);exact rfl;exact rfl;omega)|((with_reducible apply oq_eqlT);exact rfl;exact rfl;omega)|(apply oq_fn;exact rfl;first|exact trivial|(and_intros<;>omega)|omega|skip)|((with_reducible apply oq_load);exact rfl;exact rfl)|((with_reducible apply oq_loadAgg);exact rfl;exact rfl)|((with_reducible apply oq_call (hc:=Try.call144));exact rfl;exact rfl;exact fun D w1 hw1=>S1 w1)|((with_reducible apply oq_call (hc:=Try.call144));exact rfl;exact rfl;exact fun D w1 hw1=>S2 w1)|((with_reducible apply oq_call (hc:=Try.call145));exact rfl;exact rfl;exact fun D w1 hw1=>T1 w1))|((with_reducible apply tl_id);first|(with_reducible apply tl_nil)|((with_reducible apply u_q);(iterate 4 exact rfl))|((with_reducible apply u_skip);(iterate 3 exact rfl)))|((with_reducible apply gx_id);first|(with_reducible apply v_nil)|((with_reducible apply v_q);(iterate 3 exact rfl)))|((with_reducible apply os_id);first|((with_reducible apply os_storeAgg);(iterate 5 exact rfl)))|((with_reducible apply ox_id);first|((with_reducible apply ox_alloc);exact rfl;intro _))|((with_reducible apply ai_id);first|((with_reducible apply ai_x);(iterate 5 exact rfl))|((with_reducible apply ai_n0);(iterate 3 exact rfl)))|((with_reducible apply al_keep);focus (repeat (first|exact HpSub.refl _|(apply HpSub.cons;(repeat first|exact P0|apply P1))|apply HpSub.skipX|exact HpSub.nil)))|((with_reducible apply rd_id);first|(apply Rd.own;(repeat first|exact P0|apply P1);exact rfl;done)|(apply Rd.old;(first|(with_reducible assumption)|exact c0|exact c1|exact c2|exact c3|exact c4|exact c5|exact c6|exact c7|exact c8|exact d0|exact d1|exact d2|exact d3|exact d4|exact d5);first|exact List.not_mem_nil|exact m0|exact m1|exact m2|exact m3|exact m4|exact m5|exact m6|exact m7|exact m8|exact m9))|((with_reducible apply t_id);first|(apply t_mix (id:=6) [0,1,2,3,4,5] 4 #[false,false,false,false,false,false,false,false,false,false];kernel_rfl;kernel_rfl;exact rfl)|(with_reducible apply t_seq)|(apply t_region;kernel_rfl)|((with_reducible apply t_condF);exact rfl)|(with_reducible apply t_skip)|(with_reducible apply t_block))|with_reducible apply q_thenN|with_reducible apply q_blockN|exact P0|(with_reducible apply P1)|exact Rdn.zero|apply Rdn.succ|((with_reducible apply Norm.nil);exact rfl)|((with_reducible apply Norm.cons);exact rfl)|((with_reducible apply al_id);first|(apply al_done;decide +kernel)|(apply al_one 6;decide +kernel)|(apply al_one 7;decide +kernel)|(apply al_one 8;decide +kernel)|(apply al_one 9;decide +kernel)|(apply al_two 6 7;decide +kernel))|exact Nat.le_of_ble_eq_true rfl)
         all_goals exact ⟨(),hfin,by (repeat' (first|exact HpSub.refl _|(apply HpSub.consE;(repeat first|exact P0|apply P1);first|exact rfl|(simp;done))|apply HpSub.skipX))⟩
     · repeat' (first|((with_reducible apply oq_id);first|((with_reducible apply (oq_eq111 (q:=false)));exact rfl;exact rfl;exact hq)|((with_reducible apply oq_lssF);exact rfl;exact rfl;omega)|((with_reducible apply oq_eqlF);exact rfl;exact rfl;omega)|(apply oq_fn;exact rfl;first|exact trivial|(and_intros<;>omega)|omega|skip)|((with_reducible apply oq_loadAgg);exact rfl;exact rfl)|((with_reducible apply oq_call (hc:=Try.call144));exact rfl;exact rfl;exact fun D w1 hw1=>S1 w1)|((with_reducible apply oq_call (hc:=Try.call144));exact rfl;exact rfl;exact fun D w1 hw1=>S2 w1)|((with_reducible apply oq_call (hc:=Try.call145));exact rfl;exact rfl;exact fun D w1 hw1=>T1 w1))|((with_reducible apply tl_id);first|(with_reducible apply tl_nil)|((with_reducible apply u_q);(iterate 4 exact rfl))|((with_reducible apply u_skip);(iterate 3 exact rfl)))|((with_reducible apply gx_id);first|(with_reducible apply v_nil)|((with_reducible apply v_q);(iterate 3 exact rfl)))|((with_reducible apply os_id);first|((with_reducible apply os_storeAgg);(iterate 5 exact rfl)))|((with_reducible apply ox_id);first|((with_reducible apply ox_alloc);exact rfl;intro _))|((with_reducible apply ai_id);first|((with_reducible apply ai_x);(iterate 5 exact rfl))|((with_reducible apply ai_n0);(iterate 3 exact rfl)))|((with_reducible apply al_keep);focus (repeat (first|exact HpSub.refl _|(apply HpSub.cons;(repeat first|exact P0|apply P1))|apply HpSub.skipX|exact HpSub.nil)))|((with_reducible apply rd_id);first|(apply Rd.own;(repeat first|exact P0|apply P1);exact rfl;done)|(apply Rd.old;(first|(with_reducible assumption)|exact c0|exact c1|exact c2|exact c3|exact c4|exact c5|exact c6|exact c7|exact c8|exact d0|exact d1|exact d2|exact d3|exact d4|exact d5);first|exact List.not_mem_nil|exact m0|exact m1|exact m2|exact m3|exact m4|exact m5|exact m6|exact m7|exact m8|exact m9))|((with_reducible apply t_id);first|(apply t_mix (id:=6) [0,1,2,3,4,5] 4 #[false,false,false,false,false,false,false,false,false,false];kernel_rfl;kernel_rfl;exact rfl)|(with_reducible apply t_seq)|(apply t_region;kernel_rfl)|((with_reducible apply t_condF);exact rfl)|(with_reducible apply t_skip)|(with_reducible apply t_block))|with_reducible apply q_thenN|with_reducible apply q_blockN|exact P0|(with_reducible apply P1)|exact Rdn.zero|apply Rdn.succ|((with_reducible apply Norm.nil);exact rfl)|((with_reducible apply Norm.cons);exact rfl)|((with_reducible apply al_id);first|(apply al_done;decide +kernel)|(apply al_one 6;decide +kernel)|(apply al_one 7;decide +kernel)|(apply al_one 8;decide +kernel)|(apply al_one 9;decide +kernel)|(apply al_two 6 7;decide +kernel))|exact Nat.le_of_ble_eq_true rfl)
       all_goals exact ⟨(),hfin,by (repeat' (first|exact HpSub.refl _|(apply HpSub.consE;(repeat first|exact P0|apply P1);first|exact rfl|(simp;done))|apply HpSub.skipX))⟩
 case done=>
   rintro xs i rfl hi
   have hn2:1<n:=Nat.lt_of_not_le fun h=>by
     obtain ⟨x,hx,e⟩:=h1 h
     exact hi x hx e
   simp only [List.cons_append,List.nil_append]
   repeat' (first|((with_reducible apply oq_id);first|((with_reducible apply oq_gtrT);exact rfl;exact rfl;omega)|(apply oq_fn;exact rfl;first|exact trivial|(and_intros<;>omega)|omega|skip)|((with_reducible apply oq_load);exact rfl;exact rfl))|((with_reducible apply tl_id);first|(with_reducible apply tl_nil)|((with_reducible apply u_q);(iterate 4 exact rfl))|((with_reducible apply u_s0);exact rfl;exact rfl))|((with_reducible apply os_id);first|((with_reducible apply os_store);(iterate 4 exact rfl)))|((with_reducible apply rd_id);first|(apply Rd.own;(repeat first|exact P0|apply P1);exact rfl;done))|((with_reducible apply t_id);first|(with_reducible apply t_seq)|(apply t_region;kernel_rfl)|(with_reducible apply t_ret))|with_reducible apply q_thenN|with_reducible apply q_blockN|exact P0|((with_reducible apply Norm.nil);exact rfl)|((with_reducible apply Norm.cons);exact rfl)|(with_reducible apply end_ret)|exact rvs_nil|(with_reducible apply rvs_cons)|((with_reducible apply rv_cell);exact rfl;exact rfl)|exact Nat.le_of_ble_eq_true rfl)
   all_goals rfl
 case stop=>
   rintro k pre j hp' rfl
   simp only [List.cons_append,List.nil_append]
   repeat' (first|((with_reducible apply rd_id);first|(apply Rd.own;(repeat first|exact P0|apply P1);exact rfl;done))|((with_reducible apply t_id);first|(with_reducible apply t_ret))|with_reducible apply q_thenR|with_reducible apply q_blockR|(with_reducible apply end_ret)|exact rvs_nil|(with_reducible apply rvs_cons)|((with_reducible apply rv_cell);exact rfl;exact rfl))
   all_goals rfl
theorem insideR_calls (pb po n c:Nat) (L:List Pv) (hl:L.length=n) (h:RgOk L) (p:Pv) (hp:Bd 268435456 p) (hd:∀ d:Pv,∃ v∈L,Pv.dot d p≤Pv.dot d v) (w:World) (hr:RdS w 2 (some ⟨pb,po,none⟩) n (L.map (coC Pv.x Pv.y))) :
   Calls Try.prog 44 #[.slice (some ⟨pb,po,none⟩) n c,.agg #[.int .i64 p.x,.int .i64 p.y]] w fun e w'=>e=.returned (.tuple #[.bool true,.int .i64 0])∧Ext w w':=by
 have h2:=h.len
 obtain ⟨a,E,F,rg⟩:=h.rg
 have h0:=List.length_pos_iff.2 rg.ne_nil
 have hpb:pb<w.heap.size:=by
   obtain ⟨B,O,e,hlt,_⟩:=hr.at_ (by omega)
   simp only [Option.some.injEq,Addr.mk.injEq] at e
   rw [e.1];exact hlt
 have HN:=fun (b:Nat) (w1:World) (h1:RdS w1 2 (some ⟨b,0,none⟩) 1 ([p].map (coC Pv.x Pv.y)))=>nearB_calls ⟨b,0,none⟩ 1 1 [p] rfl (by omega) w1 h1
 rw [show nearB [p]=true from nearB_iff.2 fun q hq=>by rw [List.mem_singleton.1 hq];exact hp] at HN
 have HH:=fun w1 (e:Ext w w1)=>holds_calls pb po n c L hl (by omega) h.bd p hp (fun x hne=>by rw [← hl];exact hold_out rg hd x.1.1 x.1.2.1 x.1.2.2 x.2.1 x.2.2 hne) (fun h1=>by
   rcases rg.len0 with ⟨hE,_,hl1⟩|⟨_,_,hl2⟩
   · obtain ⟨i,hi⟩:=List.getElem?_of_mem (hold_one rg hd hE)
     obtain rfl:i=0:=by have:=(List.getElem?_eq_some_iff.1 hi).1;omega
     obtain ⟨y,hy⟩:=ed_nx hi
     exact ⟨⟨(0,p,y),hi,hy⟩,by have e:=congrArg (eds L) hl1;rw [e,eds_some (edS_at hi hy)];exact List.mem_append_right _ (List.mem_singleton.2 rfl),rfl⟩
   · omega) w1 (hr.ext e) (Nat.lt_of_lt_of_le hpb e.size)
 refine enterQ (c:=cx w 20) Try.func44 rfl rfl rfl rfl ?_
 repeat' (first|((with_reducible apply oq_id);first|((with_reducible apply oq_neqF);exact rfl;exact rfl;omega)|(apply oq_fn;exact rfl;first|exact trivial|(and_intros<;>omega)|omega|skip)|((with_reducible apply oq_loadAgg);exact rfl;exact rfl)|((with_reducible apply oq_call (hc:=Try.call102));exact rfl;exact rfl;exact fun D w1 hw1=>h.check ⟨pb,po,none⟩ n c hl w1 (hr.ext hw1.ext.ext))|((with_reducible apply oq_call (hc:=Try.call108));exact rfl;exact rfl;exact fun D w1 hw1=>HN _ w1 (Blk.rows (rows:=[p].map (coC Pv.x Pv.y)) (hw1.blkP (by (repeat first|exact P0|apply P1))) rfl (co_rl _)))|((with_reducible apply oq_call (hc:=Try.call109));exact rfl;exact rfl;exact fun D w1 hw1=>HH w1 hw1.ext.ext))|((with_reducible apply tl_id);first|(with_reducible apply tl_nil)|((with_reducible apply u_q);(iterate 4 exact rfl))|((with_reducible apply u_s);(iterate 3 exact rfl)))|((with_reducible apply os_id);first|((with_reducible apply os_x);exact rfl))|((with_reducible apply ox_id);first|((with_reducible apply ox_boxAgg);exact rfl;intro _)|((with_reducible apply ox_buildSlice2);(iterate 6 exact rfl);intro _))|((with_reducible apply rd_id);first|(apply Rd.own;(repeat first|exact P0|apply P1);exact rfl;done))|((with_reducible apply t_id);first|(with_reducible apply t_seq)|(apply t_region;kernel_rfl)|((with_reducible apply t_condF);exact rfl)|(with_reducible apply t_ret)|(with_reducible apply t_skip))|with_reducible apply q_thenN|exact Rdn.zero|apply Rdn.succ|(with_reducible apply end_ret)|exact rvs_nil|(with_reducible apply rvs_cons)|((with_reducible apply rv_tmp);exact rfl))
 all_goals rfl
end Go.Proofs.Ytcjkndjjbjoehaa
namespace Go.Proofs.Ytcjkndjjbjoehaa
open Go.RowKit
def LkB (bl:Nat) (B:Hp) (W:World):Prop:=∀ g k cap,W.cell? ⟨bl,0,none⟩=some (.slice (some ⟨g,0,none⟩) k cap)→∀ y∈B,y.1≠g
theorem LkB.grown {bl n:Nat} {B:Hp} {A W:World} {row:Option Nat} (hbl:bl<n) (hb:Blks n B A) (h:LkB bl B A) (hg:A.grownBy W row) (hr:∀ r,row=some r→n≤r):LkB bl B W:=fun g k cap hc y hy=>by
 have h1:=hb.blk y hy
 have h2:=h1.2.lt
 refine h g k cap ?_ y hy
 rw [World.cell?_of_block (w:=A) (a:=⟨bl,0,none⟩) (hg.block bl (by omega) (fun e=>by have:=hr _ e.symm;omega))] at hc
 exact hc
section
variable {c:Cx} {F:Fr} {H:Hp} {g:Operand} {ps:Array Tmp} {assign body:Code} {α ι κ β:Type} {Q:QS}
structure RangeOkB (bl:Nat) (c:Cx) (F:Fr) (ns:List Nat) (hk:Hp) (ps:Array Tmp) (assign body:Code) (m:Nat) (encs:α→List Value) (N:Nat)
   (hp:ι→Hp) (Pi:List α→ι→Prop) (bx:α→β→Hp) (fx:α→β→Fr) (hl:κ→Hp) (Pl:Code→List α→κ→Prop):Prop where
 size:∀ x,(encs x).length=ps.size
 slots:(ps.toList.all fun p=>Nat.blt p c.N)=true
 assign_:∀ (x:α) (W:World),SL0 { c with w0:=W,M:=[] } assign (fun F' H'=>∃ bs,FrSub F' (fx x bs)∧HpSub H' (bx x bs)) (parF (ps.toList.zip (encs x)) F) []
 disj:∀ x bs i n W D,Blks n (bx x bs) W→Has c.w0 ⟨c.M,D⟩ (hp i++hk) W→(∀ b∈ns,b<n)→LkB bl (bx x bs) W→∀ y∈bx x bs,∀ z∈hp i++hk,y.1≠z.1
 body_:∀ (l:Nat) (pre:List α) (x:α) (i:ι) (bs:β) (W:World) (D:List Nat),Pi pre i→Has c.w0 ⟨c.M,D⟩ (bx x bs++hp i++hk) W→pre.length<N→(∃ r,W.heap[l]?=some (.loop r)) →
   T { c with w0:=W,M:=(bx x bs++hp i).map Prod.fst } (WS.round c.P l m) body (QB hp Pi hl Pl (pre++[x])) (fx x bs) (bx x bs++hp i)
 nob:∀ x bs,NoM (bx x bs)
 nop:∀ i,NoM (hp i)
 nok:NoM hk
 nol:∀ j,NoM (hl j)
 inb:bl∈ns
 bnd:∀ i W D,Has c.w0 ⟨c.M,D⟩ (hp i++hk) W→∀ g k cap,W.cell? ⟨bl,0,none⟩=some (.slice (some ⟨g,0,none⟩) k cap)→g<W.heap.size
theorem range_assignB {bl m N:Nat} {ns:List Nat} {hk:Hp} {encs:α→List Value} {hp:ι→Hp} {Pi:List α→ι→Prop} {bx:α→β→Hp} {fx:α→β→Fr} {hl:κ→Hp} {Pl:Code→List α→κ→Prop}
   (R:RangeOkB bl c F ns hk ps assign body m encs N hp Pi bx fx hl Pl) {D:List Nat} {a:Act} (ha:Frm D c.N F a) (l:Nat) (x:α) (W:World) (n0:Nat) (hn0:n0≤W.heap.size) (K:Act→World→Prop)
   (hK:∀ a' W' bs,Ext W W'→Frm [] c.N (fx x bs) a'→Blks n0 (bx x bs) W'→(∀ y∈bx x bs,W.heap.size≤y.1)→K a' W') :
   assign.wpIn (Fence.wide.inRound l) m c.P (Exit.then K (fun _ _ _=>False)) { tmps:=(ps.zip ⟨encs x⟩).foldl (fun t (p,v)=>t.setIfInBounds p v) a.tmps,defers:=[] } W:=by
 have hF:Frm [] c.N (parF (ps.toList.zip (encs x)) F) { tmps:=(ps.zip ⟨encs x⟩).foldl (fun t (p,v)=>t.setIfInBounds p v) a.tmps,defers:=[] }:=by
   have h1:Frm D c.N F ⟨a.tmps,D.map dmark⟩:=⟨ha.size,rfl,ha.at_⟩
   have:=Frm.par (ps.toList.zip (encs x)) (fun p hp=>by
     have h2:=List.all_eq_true.1 R.slots
     exact h2 p.1 (List.of_mem_zip hp).1) h1
   have e:(ps.zip ⟨encs x⟩).foldl (fun t (p,v)=>t.setIfInBounds p v) a.tmps=(ps.toList.zip (encs x)).foldl (fun t p=>t.setIfInBounds p.1 p.2) a.tmps:=by
     rw [← Array.foldl_toList,Array.toList_zip]
   rw [e];exact this
 have h0:Has W ⟨[],[]⟩ [] W:=Has.start W
 refine wpIn_mono (SL0.wpIn assign (R.assign_ x W) [] _ W hF h0) fun e a' W' he=>?_
 obtain ⟨rfl,F',H',⟨bs,h1,h2⟩,h3,h4⟩:=he
 have h5:=h4.sub h2
 have hfr:∀ y∈bx x bs,W.heap.size≤y.1:=fun y hy=>by
   rcases (h5.blk y hy).1 with h6|h6
   · exact h6
   · exact (List.not_mem_nil h6).elim
 exact hK a' W' bs h4.ext.ext (h3.sub h1) ⟨fun y hy=>⟨Nat.le_trans hn0 (hfr y hy),(h5.blk y hy).2⟩,h5.nodup⟩ hfr
theorem range_bodyB {bl m N:Nat} {ns:List Nat} {hk:Hp} {encs:α→List Value} {hp:ι→Hp} {Pi:List α→ι→Prop} {bx:α→β→Hp} {fx:α→β→Fr} {hl:κ→Hp} {Pl:Code→List α→κ→Prop}
   (R:RangeOkB bl c F ns hk ps assign body m encs N hp Pi bx fx hl Pl) {D:List Nat} (n0:Nat) (l:Nat) (pre:List α) (x:α) (i:ι) (bs:β) (a':Act) (W:World) (hi:Pi pre i) (hw:Has c.w0 ⟨c.M,D⟩ (bx x bs++hp i++hk) W) (hlen:pre.length<N) (hr:∃ r,W.heap[l]?=some (.loop r)) (hmi:∀ b,MiOf c hk b→b<n0)
   (ha:Frm [] c.N (fx x bs) a') (hn:n0≤W.heap.size) :
   body.wpIn (Fence.wide.inRound l) m c.P (ownPostG n0 (KeepB (MiOf c hk)) (fun xs W'=>∃ j,Pi xs j∧Has c.w0 ⟨c.M,D⟩ (hp j++hk) W'∧n0≤W'.heap.size) (fun k xs W'=>∃ j,Pl k xs j∧Has c.w0 ⟨c.M,D⟩ (hl j++hk) W') (pre++[x]) W) a' W:=by
 have hself:Has W ⟨(bx x bs++hp i).map Prod.fst,[]⟩ (bx x bs++hp i) W:=by
   refine ⟨ExtM.refl _ _,fun y hy=>⟨.inr (List.mem_map.2 ⟨y,hy,rfl⟩),(hw.blk y (List.mem_append_left _ hy)).2⟩,?_,List.nodup_nil,fun k hk=>(List.not_mem_nil hk).elim⟩
   have:=hw.nodup
   rw [List.map_append,List.nodup_append] at this
   exact this.1
 have h:=R.body_ l pre x i bs W D hi hw hlen hr [] a' W ha hself
 refine wpIn_mono h fun e a2 W' he=>?_
 obtain ⟨D',F',H',h1,h2,h3⟩:=he
 have hk0:KeepsFrom n0 W W':=h3.ext.keeps (fun b hb=>by
   obtain ⟨x0,hx0,rfl⟩:=List.mem_map.1 hb
   exact ((R.nob x bs).app (R.nop i)).cells hx0 (hw.blk x0 (List.mem_append_left _ hx0)).2)
 have hB:KeepB (MiOf c hk) W W':=fun b hb=>h3.ext.block b (Nat.lt_of_lt_of_le (hmi b hb) hn) (fun hm=>by
   rcases hb with hb|hb
   · obtain ⟨y,hy,rfl⟩:=List.mem_map.1 hm
     rcases (hw.blk y (List.mem_append_left _ hy)).1 with h4|h4
     · omega
     · exact hb.2 h4
   · have:=hw.nodup
     rw [List.map_append,List.nodup_append] at this
     exact this.2.2 _ hm _ hb rfl)
 have h3':Has W ⟨(bx x bs++hp i).map Prod.fst,[]⟩ H' W':=⟨h3.ext,h3.blk,h3.nodup,List.nodup_nil,fun k hk=>(List.not_mem_nil hk).elim⟩
 cases e with
 | normal=>
   obtain ⟨j,hj,hs⟩:=h1
   exact ⟨hk0,hB,j,hj,hw.comp2 (h3'.sub hs),Nat.le_trans hn h3.ext.size⟩
 | ret=>
   obtain ⟨j,hj,hs⟩:=h1
   exact ⟨hk0,j,hj,hw.comp2 (h3'.sub hs)⟩
 | exit id=>
   obtain ⟨j,hj,hs⟩:=h1
   exact ⟨hk0,j,hj,hw.comp2 (h3'.sub hs)⟩
 | goto _=>exact h1.elim
 | panic _=>exact h1.elim
 | outgrown=>exact h1.elim
theorem t_rangeB (bl:Nat) {N m gf:Nat} {lb:List Value} {encs:α→List Value} {S Sp:List α→Prop} {hk:Hp} (hp:ι→Hp) (Pi:List α→ι→Prop) (bx:α→β→Hp) (fx:α→β→Fr) (hl:κ→Hp) (Pl:Code→List α→κ→Prop) (i0:ι)
   (hev:ev F g=some (.func (.func gf) #[] ⟨lb⟩)) (eg:∀ (args:Array Value) (w:World),(callFunc gf args).run c.P w=.ok (.enter gf args) w)
   (hseq:∀ D w,Has c.w0 ⟨c.M,D⟩ H w→SeqStopsK Fence.wide (m+1) c.P gf ⟨lb⟩ (fun x=>⟨encs x⟩) (KeepB (MiOf c hk)) S Sp N w)
   (h0:Pi [] i0) (hH:HpSub H (hp i0++hk)) (R:RangeOkB bl c F (H.map Prod.fst) hk ps assign body m encs N hp Pi bx fx hl Pl)
   (hdone:∀ xs i,S xs→Pi xs i→Q .normal F (hp i++hk)) (hstop:∀ k pre j,Sp pre→Pl k pre j→T c (WS.own c.P) k Q F (hl j++hk)):T c (WS.own c.P) (.rangeFunc g ps assign body) Q F H:=by
 intro D a w ha hw
 refine (wpIn_wide (n:=m+2)).1 ?_
 have hbl:bl<w.heap.size:=by
   obtain ⟨y,hy,e⟩:=List.mem_map.1 R.inb
   rw [← e];exact (hw.blk y hy).2.lt
 have hD:∀ k∈D,k<w.heap.size:=fun k hk=>mark_lt (hw.marks.2 k hk).2
 have stab:∀ (X:Hp) (A B:World) (row:Option Nat),NoM X→Has c.w0 ⟨c.M,D⟩ X A→A.grownBy B row→(∀ r,row=some r→w.heap.size≤r∧∃ o:Obj,A.heap[r]?=some o∧o.isCells=false)→Has c.w0 ⟨c.M,D⟩ X B:=fun X A B row nm h hg hr=>
   Has.grown nm h hg fun r e=>⟨Nat.le_trans hw.ext.size (hr r e).1,fun hm=>by have:=hD r hm;have:=(hr r e).1;omega,(hr r e).2⟩
 refine wpIn_rangeFunc_ownH (F:=Fence.wide) (encs:=fun x=>⟨encs x⟩) (Kp:=KeepB (MiOf c hk)) (S:=S) (Sp:=Sp) (N:=N) (w0:=w) rfl (by omega) (gf:=gf) (lb:=⟨lb⟩) (ha.ev hev) trivial eg (hseq D w hw) (fun h k b hb=>(k b hb).trans (h b hb))
   (fun W l o o' hl ho hc hwk b hb=>by have:=mi_lt hw hH b hb;exact World.putObj_heap_other (by omega)) (Below.refl _ _) (fun x=>by simpa using R.size x)
   (fun xs W'=>∃ j,Pi xs j∧Has c.w0 ⟨c.M,D⟩ (hp j++hk) W'∧w.heap.size≤W'.heap.size) (fun k xs W'=>∃ j,Pl k xs j∧Has c.w0 ⟨c.M,D⟩ (hl j++hk) W')
   (fun s A B row ⟨j,h1,h2,h3⟩ hg hr=>⟨j,h1,stab _ A B row ((R.nop j).app R.nok) h2 hg hr,Nat.le_trans h3 hg.size⟩) (fun k s A B row ⟨j,h1,h2⟩ hg hr=>⟨j,h1,stab _ A B row ((R.nol j).app R.nok) h2 hg hr⟩) ⟨i0,h0,hw.sub hH,Nat.le_refl _⟩
   (fun x a' W=>∃ bs,Frm [] c.N (fx x bs) a'∧Blks w.heap.size (bx x bs) W∧LkB bl (bx x bs) W) (fun x a' _ A B row ⟨bs,h1,h2,h3⟩ hg hr=>⟨bs,h1,Blks.grown (R.nob x bs) h2 hg fun r e=>(hr r e).2,LkB.grown hbl h2 h3 hg fun r e=>(hr r e).1⟩) ?_ ?_ ?_ ?_
 · intro l pre x W K ⟨j,h1,h2,h3⟩ hK
   refine range_assignB R ha l x W w.heap.size h3 K fun a' W' bs he hf hb hfr=>hK a' W' ?_ ?_ ⟨j,h1,h2.grow he,Nat.le_trans h3 he.size⟩ ⟨bs,hf,hb,fun g k cap hc y hy e=>?_⟩
   · exact (he.toM []).keeps (fun b hb=>(List.not_mem_nil hb).elim)
   · exact fun b hb=>he.block b (Nat.lt_of_lt_of_le (mi_lt hw hH b hb) h3)
   · rw [World.cell?_of_block (w:=W) (a:=⟨bl,0,none⟩) (he.block bl (Nat.lt_of_lt_of_le hbl h3))] at hc
     have q1:=R.bnd j W D h2 g k cap hc
     have q2:=hfr y hy
     omega
 · intro l pre x a' W hl' hr ⟨j,h1,h2,h3⟩ ⟨bs,h4,h5,h6⟩ hlen
   have hj:=h2.join h5 hw.ext.size (R.disj x bs j _ W D h5 h2 (fun b hb=>by obtain ⟨y,hy,rfl⟩:=List.mem_map.1 hb;exact (hw.blk y hy).2.lt) h6)
   rw [← List.append_assoc] at hj
   exact range_bodyB R w.heap.size l pre x j bs a' W h1 hj hlen hr (fun b hb=>mi_lt hw hH b hb) h4 h3
 · intro D' xs W hD' hS ⟨j,h1,h2,h3⟩ hm
   refine ⟨D'::D,F,hp j++hk,hdone xs j hS h1,⟨ha.size,by simp [ha.defers,dmark],ha.at_⟩,h2.ext,h2.blk,h2.nodup,List.nodup_cons.2 ⟨fun hmem=>by have:=hD _ hmem;omega,h2.marks.1⟩,fun k hk=>?_⟩
   rcases List.mem_cons.1 hk with rfl|hk
   · exact ⟨Nat.le_trans hw.ext.size hD',hm⟩
   · exact h2.marks.2 k hk
 · intro D' k pre W hD' hS ⟨j,h1,h2⟩ hm
   refine wpIn_wide.2 (hstop k pre j hS h1 (D'::D) _ W ⟨ha.size,by simp [ha.defers,dmark],ha.at_⟩ ⟨h2.ext,h2.blk,h2.nodup,List.nodup_cons.2 ⟨fun hmem=>by have:=hD _ hmem;omega,h2.marks.1⟩,fun k hk=>?_⟩)
   rcases List.mem_cons.1 hk with rfl|hk
   · exact ⟨Nat.le_trans hw.ext.size hD',hm⟩
   · exact h2.marks.2 k hk
end
end Go.Proofs.Ytcjkndjjbjoehaa
namespace Go.Proofs.Ytcjkndjjbjoehaa
open Go.RowKit
attribute [local irreducible] OQ OS OX Rd T TL GX GL AL AI RV wpG SAny Calls
theorem hullN_P (p:Addr) (n c:Nat) (L:List Pv) (w:World) (hr:RdS w 2 (some p) n (L.map (coC Pv.x Pv.y))) (hl:L.length=n) (h1:1≤n) (hn:n<50) (hb:∀ q∈L,Bd 268435456 q) :
   Calls Try.prog 96 #[.slice (some p) n c] w fun e w'=>∃ v H',e=.returned v∧(∃ g cp D,D.Pairwise (fun a b=>ltP a b=true)∧(∀ q,q∈D↔q∈L)∧v=.tuple #[.slice (some ⟨g,0,none⟩) (hulI D).length cp,.int .i64 0]∧H'=[(g,coB Pv.x Pv.y (hulI D),some (111,2,cp))])∧Has w ⟨[],[]⟩ H' w':=by
 refine enterF (c:=cx w 19) Try.func96 rfl rfl rfl rfl ?_
 repeat' (first|((with_reducible apply oq_id);first|((with_reducible apply oq_lssF);exact rfl;exact rfl;omega)|((with_reducible apply oq_gtrF);exact rfl;exact rfl;omega)|(apply oq_fn;exact rfl;first|exact trivial|(and_intros<;>omega)|omega|skip)|((with_reducible apply oq_call (hc:=Try.call108));exact rfl;exact rfl;exact fun D w1 hw1=>near_calls p n c L hl (by omega) hb w1 (hr.ext hw1.ext.ext)))|((with_reducible apply tl_id);first|(with_reducible apply tl_nil)|((with_reducible apply u_s);(iterate 3 exact rfl);(with_reducible apply os_callF (PV:=fun v H'=>∃ g cp D,D.Pairwise (fun a b=>ltP a b=true)∧(∀ q,q∈D↔q∈L)∧v=.slice (some ⟨g,0,none⟩) (hulI D).length cp∧H'=[(g,coB Pv.x Pv.y (hulI D),some (111,2,cp))]) (hc:=Try.call137));exact rfl;exact rfl;exact fun D w1 hw1=>hull_P p n c L w1 (hr.ext hw1.ext.ext) hl h1 hn (fun q hq=>by have:=hb q hq;unfold Bd at this ⊢;omega);rintro _ _ ⟨g,cp,Dd,h3,h4,rfl,rfl⟩;simp only [List.cons_append,List.nil_append])|((with_reducible apply u_q);(iterate 4 exact rfl)))|((with_reducible apply t_id);first|(with_reducible apply t_seq)|(apply t_region;kernel_rfl)|((with_reducible apply t_condF);exact rfl)|(with_reducible apply t_ret)|(with_reducible apply t_skip)|(with_reducible apply t_block))|with_reducible apply q_thenN|with_reducible apply q_blockN|(with_reducible apply end_ret)|exact rvs_nil|(with_reducible apply rvs_cons)|((with_reducible apply rv_tmp);exact rfl))
 all_goals exact ⟨_,⟨g,cp,Dd,h3,h4,rfl,rfl⟩,(by (repeat' (first|exact HpSub.refl _)))⟩
theorem sideOrd_calls (a b:Pv) (ha:Bd 1073741824 a) (hb:Bd 1073741824 b) (w:World):Calls Try.prog 170 #[.agg #[.int .i64 a.x,.int .i64 a.y],.agg #[.int .i64 b.x,.int .i64 b.y]] w fun e w'=>e=.returned (.int .i64 (if ordV (half a) (half b)=0 then ordV 0 (Pv.turn a b) else ordV (half a) (half b)))∧Ext w w':=by
 obtain ⟨p,hp⟩:∃ p,ordV (half a) (half b)=p:=⟨_,rfl⟩
 obtain ⟨q,hq⟩:∃ q,ordV 0 (Pv.turn a b)=q:=⟨_,rfl⟩
 have H1:=fun w1=>cmp_calls (half a) (half b) w1
 have H2:=fun w1=>cmp_calls 0 (Pv.turn a b) w1
 rw [hp] at H1 ⊢
 rw [hq] at H2 ⊢
 refine enterQ (c:=cx w 16) Try.func170 rfl rfl rfl rfl ?_
 repeat' (first|((with_reducible apply oq_id);first|(apply oq_fn;exact rfl;first|exact trivial|(and_intros<;>omega)|omega|skip)|((with_reducible apply oq_loadAgg);exact rfl;exact rfl)|((with_reducible apply oq_call (hc:=Try.call171));exact rfl;exact rfl;exact fun D w1 hw1=>half_calls a w1)|((with_reducible apply oq_call (hc:=Try.call171));exact rfl;exact rfl;exact fun D w1 hw1=>half_calls b w1)|((with_reducible apply oq_call (hc:=Try.call145));exact rfl;exact rfl;exact fun D w1 hw1=>turn_calls a b ha hb w1)|((with_reducible apply oq_call (hc:=Try.call160));exact rfl;exact rfl;exact fun D w1 hw1=>H1 w1)|((with_reducible apply oq_call (hc:=Try.call160));exact rfl;exact rfl;exact fun D w1 hw1=>H2 w1)|((with_reducible apply oq_call (hc:=Try.call159));exact rfl;exact rfl;exact fun D w1 hw1=>or_calls _ _ _ _ w1 (hw1.cellAt (by (repeat first|exact P0|apply P1)) rfl) (hw1.cellAt (by (repeat first|exact P0|apply P1)) rfl)))|((with_reducible apply tl_id);first|(with_reducible apply tl_nil)|((with_reducible apply u_q);(iterate 4 exact rfl))|((with_reducible apply u_s);(iterate 3 exact rfl)))|((with_reducible apply gx_id);first|(with_reducible apply v_nil)|((with_reducible apply v_q);(iterate 3 exact rfl)))|((with_reducible apply os_id);first|((with_reducible apply os_x);exact rfl))|((with_reducible apply ox_id);first|((with_reducible apply ox_boxAgg);exact rfl;intro _)|((with_reducible apply ox_buildSlice1);(iterate 6 exact rfl);intro _))|((with_reducible apply ai_id);first|((with_reducible apply ai_q);(iterate 5 exact rfl))|((with_reducible apply ai_x);(iterate 5 exact rfl)))|((with_reducible apply rd_id);first|(apply Rd.own;(repeat first|exact P0|apply P1);exact rfl;done))|((with_reducible apply t_id);first|(apply t_mix (id:=1) [0,1,2,3,4,5,6,7,8] 3 #[false,false,false,false,false,false,false,false,false,false,false,false];kernel_rfl;kernel_rfl;exact rfl)|(with_reducible apply t_seq)|(apply t_region;kernel_rfl)|(with_reducible apply t_ret))|with_reducible apply q_thenN|exact Rdn.zero|apply Rdn.succ|(with_reducible apply end_ret)|exact rvs_nil|(with_reducible apply rvs_cons)|((with_reducible apply rv_tmp);exact rfl)|((with_reducible apply al_id);first|(apply al_done;decide +kernel)|(apply al_one 9;decide +kernel)|(apply al_one 10;decide +kernel)|(apply al_one 11;decide +kernel)))
 all_goals rfl
end Go.Proofs.Ytcjkndjjbjoehaa
namespace Go.Proofs.Ytcjkndjjbjoehaa
open Go.RowKit
theorem run_append_zeros {P:Program} (w:World) (t tx ty e:TypeId) (i:TypeInfo) (z:Value) (ht:P.underlying t=some (.slice e)) (hx:P.underlying tx=some (.int .i64)) (hi:P.info? e=some i) (hz:i.zero=some z) (hs:0<i.size)
   (n:Nat) (h0:0<n) (h63:(n:Int)≤9223372036854775807) (h48:n*i.bytes≤281474976710656) :
   (Builtin.append_ #[t,tx] ty #[.slice none 0 0,.int .i64 (n:Int)]).run P w =
     .ok (.slice (some ⟨w.heap.size,0,none⟩) n (grownCap w n 0 e)) (w.drew.alloc (.cells (Builtin.zeroCells z.cells n++Builtin.zeroCells z.cells (grownCap w n 0 e-n)) e)):=by
 have hn:n≠0:=by omega
 have h63':¬ (9223372036854775807<(n:Int)):=by omega
 have h48':¬ (281474976710656<Builtin.nextslicecap n 0*i.bytes):=by rw [nextslicecap_zero h0];omega
 have h48i:¬ (281474976710656<(n:Int)*(i.bytes:Int)):=by
   have:((n*i.bytes:Nat):Int)≤281474976710656:=by omega
   rw [Int.natCast_mul] at this;omega
 have hw:IntKind.i64.wrap (n:Int)=(n:Int):=IntWalk.i64_in _ (by omega)
 have hz0:¬ (n*i.size=0):=by have:=Nat.mul_pos h0 hs;omega
 have hz1:¬ (n=0∨i.size=0):=by omega
 have hneg:¬ ((n:Int)<0):=by omega
 simp [Builtin.append_,run_underlying ht,run_underlying hx,sizeOf,typeInfo,zeroValue,hi,hz,asInt,asIntOf,hw,hneg,hn,h63',h48',h48i,hz0,hz1,Question.forced,newRow,grownCap,run_firstCells_none]
theorem os_appendZ {c:Cx} {F:Fr} {H:Hp} {K:Value→Hp→Prop} {d:Option Tmp} {ty:TypeId} {pos:String} {af:Array Edge} {g:Option (Nat×Bool)} {s x:Operand} {t tx e size bytes n:Nat} (hk:AppOk c.P t e size bytes) (hti:c.P.underlying tx=some (.int .i64)) (hs:ev F s=some (.slice none 0 0)) (hx:ev F x=some (.int .i64 (n:Int))) (h0:0<n) (hb:n*bytes≤281474976710656) (hn:n≤maxLen)
   (k:∀ b cap,n≤cap→K (.slice (some ⟨b,0,none⟩) n cap) ((b,[],some (e,size,cap))::H)):OS c ⟨d,.call ⟨.builtin .append,#[s,x],#[t,tx]⟩,ty,pos,af,g⟩ F H K:=by
 intro D a w ha hw
 obtain ⟨i,z,k1,k2,k3,k4,k5⟩:=hk.info
 have hp:=hk.pos
 have r:=run_append_zeros (P:=c.P) w t tx ty e i z hk.und hti k1 k2 (by omega) n h0 (by unfold maxLen at hn;omega) (by rw [k4];exact hb)
 have:(execOp a.eval ⟨d,.call ⟨.builtin .append,#[s,x],#[t,tx]⟩,ty,pos,af,g⟩).run c.P w=.ok (.value (.slice (some ⟨w.heap.size,0,none⟩) n (grownCap w n 0 e))) (w.drew.alloc (.cells (Builtin.zeroCells z.cells n++Builtin.zeroCells z.cells (grownCap w n 0 e-n)) e)):=by
   simp [execOp,resolve,invoke,builtin,Sem.run_bind,Sem.run_pure,Result.andThen,ha.ev hs,ha.ev hx,r]
 rw [this]
 have hge:=grownCap_ge w n 0 e
 refine ⟨_,k w.heap.size _ hge,hw.fresh ((Ext.refl w).drew.alloc _) (Nat.le_refl _) (.inl ⟨_,e,heap_alloc_new w.drew _,fun o v h=>(by simp at h),rfl,?_,grownCap_le_maxLen w n 0 e hn⟩)⟩
 rw [Array.size_append,size_zeroCells,size_zeroCells,k5,← Nat.add_mul]
 congr 1
 omega
theorem os_appendU {c:Cx} {F:Fr} {H H':Hp} {C:List Value} {K:Value→Hp→Prop} {d:Option Tmp} {ty:TypeId} {pos:String} {af:Array Edge} {g:Option (Nat×Bool)} {s x:Operand} {t e size bytes m c2 n cap gb:Nat} {A:Option Addr} {rows:List (List Value)} (hk:AppOk c.P t e size bytes) (hs:ev F s=some (.slice (some ⟨gb,0,none⟩) n cap)) (hx:ev F x=some (.slice A m c2))
   (hp:Pick H gb C (some (e,size,cap)) H') (hr:∀ D w,Has c.w0 ⟨c.M,D⟩ H w→RdS w size A m rows) (hrk:∀ r∈rows,r.length=size) (hC:C.length=n*size) (h1:∀ r∈rows,∀ u∈r,u.oneCell'=true) (hb:(n+m)*bytes≤140737488355328) (hmax:n+m≤9223372036854775807)
   (k:∀ b cap',K (.slice (some ⟨b,0,none⟩) (n+m) cap') ((b,C++rows.flatten,some (e,size,cap'))::H')):OS c ⟨d,.call ⟨.builtin .append,#[s,x],#[t,t]⟩,ty,pos,af,g⟩ F H K:=by
 intro D a w ha hw
 have hw':=hw.perm hp.perm
 obtain ⟨_,h|⟨g',cap',cur,hv,_,_,h2,_⟩⟩:=own_of_blk (hw'.blk _ (List.mem_cons_self ..)).2 hC hk.pos
 · cases h.1
 · simp only [Value.slice.injEq] at hv
   obtain ⟨_,_,rfl⟩:=hv
   exact os_appendRows hk hs hx hp hr hrk hC h1 h2 hb hmax k D a w ha hw
theorem oq_cap {c:Cx} {F:Fr} {H:Hp} {d:Option Tmp} {ty:TypeId} {pos:String} {af:Array Edge} {g:Option (Nat×Bool)} {x:Operand} {A:Option Addr} {n cp:Nat} {t e s0:Nat} {a0:Bool} {z0:List Value} (ht:tyAt c.tys t=some ⟨a0,s0,z0,.slice e⟩) (hx:ev F x=some (.slice A n cp)) :
   OQ c ⟨d,.call ⟨.builtin .cap,#[x],#[t]⟩,ty,pos,af,g⟩ F H (.int .i64 ((cp:Nat):Int)):=.of fun D a w ha _=>by
 have hk:=(c.ty ht).kind w
 simp [execOp,resolve,invoke,builtin,ha.ev hx,Builtin.cap_,hk,Sem.run_bind,Sem.run_pure,Result.andThen,goInt]
theorem oq_sliceNil {c:Cx} {F:Fr} {H:Hp} {d:Option Tmp} {ty t:TypeId} {pos:String} {af:Array Edge} {g:Option (Nat×Bool)} {x y:Operand} {a0 a1:Bool} {s0 s1 e:Nat} {z0 z1:List Value} {k1:TyK} {k:IntKind} {hi:Int} (ht:tyAt c.tys t=some ⟨a0,s0,z0,.slice e⟩) (he:tyAt c.tys e=some ⟨a1,s1,z1,k1⟩)
   (hx:ev F x=some (.slice none 0 0)) (hy:ev F y=some (.int k hi)) (h0:hi=0) :
   OQ c ⟨d,.slice t x none (some y) none,ty,pos,af,g⟩ F H (.slice none 0 0):=.of fun D a w ha _=>by
 subst h0
 have hk:=(c.ty ht).kind w
 have hs:=(c.ty he).size w
 simp only [execOp,Option.map,ha.ev hx,ha.ev hy]
 simp [Instr.sliceAt,Instr.slice,Instr.sliceBounds,Instr.sliceBound,asIntOf,Sem.run_bind,hk,hs,Result.andThen,go_sem,add_eq]
end Go.Proofs.Ytcjkndjjbjoehaa
namespace Go.Proofs.Ytcjkndjjbjoehaa
open Go.RowKit
attribute [local irreducible] OQ OS OX Rd T TL GX GL AL AI RV wpG SAny Calls
def GrowP (n:Nat) (u:Value) (H:Hp):Prop:=∃ b cap,n≤cap∧u=.slice (some ⟨b,0,none⟩) 0 cap∧H=[(b,[],some (111,2,cap))]
theorem growP_calls (n:Nat) (h0:0<n) (hn:n≤1000000) (w:World):Calls Try.prog 190 #[.slice none 0 0,.int .i64 (n:Nat)] w fun e w'=>∃ u H',e=.returned u∧GrowP n u H'∧Has w ⟨[],[]⟩ H' w':=by
 refine enterF (c:=cx w 27) Try.func190 rfl rfl rfl rfl ?_
 repeat' (first|((with_reducible apply oq_id);first|((with_reducible apply oq_cap);exact rfl;exact rfl)|((with_reducible apply oq_sliceNil);(iterate 4 exact rfl);(first|exact rfl|omega))|((with_reducible apply (oq_sliceHG (L:=some ⟨b,0,none⟩) (h:=0)));exact (fun h=>nomatch h);(iterate 4 exact rfl);omega)|(focus ((with_reducible apply (oq_subE (k:=0)));exact rfl;exact rfl;omega))|(focus ((with_reducible apply (oq_subE (k:=(n:Int))));exact rfl;exact rfl;omega))|((with_reducible apply oq_lssF);exact rfl;exact rfl;omega)|((with_reducible apply oq_gtrT);exact rfl;exact rfl;omega)|(apply oq_fn;exact rfl;first|exact trivial|(and_intros<;>omega)|omega|skip))|((with_reducible apply tl_id);first|(with_reducible apply tl_nil)|((with_reducible apply u_s);(iterate 3 exact rfl);((with_reducible apply (os_appendZ (hk:=app_ok101) (n:=n)));exact Try.underlying3;exact rfl;exact rfl;exact h0;omega;(unfold maxLen;omega);intro b cap hcap))|((with_reducible apply u_q);(iterate 4 exact rfl)))|((with_reducible apply t_id);first|(with_reducible apply t_seq)|(apply t_region;kernel_rfl)|((with_reducible apply t_condT);exact rfl)|((with_reducible apply t_condF);exact rfl)|(with_reducible apply t_ret)|(with_reducible apply t_skip))|with_reducible apply q_thenN|(with_reducible apply end_ret)|exact rvs_nil|(with_reducible apply rvs_cons)|((with_reducible apply rv_tmp);exact rfl))
 all_goals (refine ⟨_,⟨_,_,hcap,rfl,rfl⟩,?_⟩;(try simp only [List.append_nil]);exact HpSub.refl _)
def OwnP2 (l:List Pv) (n:Nat) (u:Value) (H:Hp):Prop:=∃ b cap,u=.slice (some ⟨b,0,none⟩) n cap∧H=[(b,coB Pv.x Pv.y l,some (111,2,cap))]
theorem concatP_calls (A:Option Addr) (c:Nat) (X Y:Option Addr) (nx cx' ny cy:Nat) (l1 l2:List Pv) (w:World) (hr:RdS w 1 A 2 [[.slice X nx cx'],[.slice Y ny cy]]) (h1:RdS w 2 X nx (l1.map (coC Pv.x Pv.y))) (h2:RdS w 2 Y ny (l2.map (coC Pv.x Pv.y))) (h0:0<nx+ny) (hn:nx+ny≤1000000):Calls Try.prog 167 #[.slice A 2 c] w fun e w'=>∃ u H',e=.returned u∧OwnP2 (l1++l2) (nx+ny) u H'∧Has w ⟨[],[]⟩ H' w':=by
 have e1:l1.length=nx:=by have:=h1.len;simpa using this
 have e2:l2.length=ny:=by have:=h2.len;simpa using this
 have eC:coB Pv.x Pv.y l1++(l2.map (coC Pv.x Pv.y)).flatten=coB Pv.x Pv.y (l1++l2):=by simp only [coB,List.map_append,List.flatten_append]
 obtain ⟨bA,oA,x0,rfl,_,hx0,_,hc0⟩:=hr.row (show 0<2 by omega)
 obtain ⟨bB,oB,x1,hA,_,hx1,_,hc1⟩:=hr.row (show 1<2 by omega)
 simp only [Option.some.injEq,Addr.mk.injEq] at hA
 obtain ⟨rfl,rfl,_⟩:=hA
 simp only [List.getElem?_cons_zero,List.getElem?_cons_succ,Option.some.injEq] at hx0 hx1
 subst hx0
 subst hx1
 have c0:=hc0 0 _ rfl
 have c1:=hc1 0 _ rfl
 clear hc0 hc1
 refine enterF (c:=cx w 36) Try.func167 rfl rfl rfl rfl ?_
 repeat' (first|((with_reducible apply oq_id);first|(apply oq_fn;exact rfl;first|exact trivial|(and_intros<;>omega)|omega|skip))|((with_reducible apply tl_id);first|(with_reducible apply tl_nil)|((with_reducible apply u_q);(iterate 4 exact rfl)))|((with_reducible apply t_id);first|(with_reducible apply t_seq)|(apply t_region;kernel_rfl)|(with_reducible apply t_block))|with_reducible apply q_thenN)
 apply t_loopK (ι:=Nat) [0,9,10] (fun k=>[(11,.int .i64 ((k:Nat):Int)),(3,.int .i64 ((if k=0 then 0 else if k=1 then nx else nx+ny:Nat):Int))]) (fun _=>[]) (fun k=>k≤2) (fun k=>2-k) (0)
 (repeat (first|exact KeepF.nil|(apply KeepF.cons;exact rfl)|apply KeepF.skip))
 (repeat first|exact FrSub.nil|(apply FrSub.cons;exact rfl))
 (repeat (first|exact HpSub.refl _|(apply HpSub.consE;(repeat first|exact P0|apply P1);exact rfl)|exact HpSub.nil))
 · exact Nat.zero_le _
 rintro k hk
 try simp only [List.cons_append,List.nil_append]
 by_cases hlt:k<2
 · rcases (show k=0∨k=1 by omega) with rfl|rfl
   · simp only [if_true]
     repeat' (first|((with_reducible apply oq_id);first|(focus ((with_reducible apply (oq_addE (k:=((nx:Nat):Int))));exact rfl;exact rfl;omega))|(focus ((with_reducible apply oq_indexAddrN);(iterate 4 exact rfl);omega))|((with_reducible apply oq_lssT);exact rfl;exact rfl;omega)|((with_reducible apply oq_lssF);exact rfl;exact rfl;omega)|(apply oq_fn;exact rfl;first|exact trivial|(and_intros<;>omega)|omega|skip)|((with_reducible apply oq_load);exact rfl;exact rfl))|((with_reducible apply tl_id);first|(with_reducible apply tl_nil)|((with_reducible apply u_q);(iterate 4 exact rfl)))|((with_reducible apply rd_id);first|(apply Rd.old;(first|(with_reducible assumption)|exact c0|exact c1|exact c2|exact c3|exact c4|exact c5|exact c6|exact c7|exact c8|exact d0|exact d1|exact d2|exact d3|exact d4|exact d5);first|exact List.not_mem_nil|exact m0|exact m1|exact m2|exact m3|exact m4|exact m5|exact m6|exact m7|exact m8|exact m9))|((with_reducible apply t_id);first|(with_reducible apply t_seq)|(apply t_region;kernel_rfl)|((with_reducible apply t_condT);exact rfl)|((with_reducible apply t_condF);exact rfl)|(with_reducible apply t_skip)|(with_reducible apply t_block))|with_reducible apply q_thenN|with_reducible apply q_blockN)
     all_goals (refine ⟨1,by omega,by omega,?_,?_⟩<;>(try simp only [show ¬ (1=0) by omega,if_false,if_true])<;>(repeat' (first|exact FrSub.nil|(apply FrSub.cons;exact rfl)|exact HpSub.refl _)))
   · simp only [show ¬ (1=0) by omega,if_false,if_true]
     repeat' (first|((with_reducible apply oq_id);first|(focus ((with_reducible apply (oq_addE (k:=((nx+ny:Nat):Int))));exact rfl;exact rfl;omega))|(focus ((with_reducible apply oq_indexAddrN);(iterate 4 exact rfl);omega))|((with_reducible apply oq_lssT);exact rfl;exact rfl;omega)|((with_reducible apply oq_lssF);exact rfl;exact rfl;omega)|(apply oq_fn;exact rfl;first|exact trivial|(and_intros<;>omega)|omega|skip)|((with_reducible apply oq_load);exact rfl;exact rfl))|((with_reducible apply tl_id);first|(with_reducible apply tl_nil)|((with_reducible apply u_q);(iterate 4 exact rfl)))|((with_reducible apply rd_id);first|(apply Rd.old;(first|(with_reducible assumption)|exact c0|exact c1|exact c2|exact c3|exact c4|exact c5|exact c6|exact c7|exact c8|exact d0|exact d1|exact d2|exact d3|exact d4|exact d5);first|exact List.not_mem_nil|exact m0|exact m1|exact m2|exact m3|exact m4|exact m5|exact m6|exact m7|exact m8|exact m9))|((with_reducible apply t_id);first|(with_reducible apply t_seq)|(apply t_region;kernel_rfl)|((with_reducible apply t_condT);exact rfl)|((with_reducible apply t_condF);exact rfl)|(with_reducible apply t_skip)|(with_reducible apply t_block))|with_reducible apply q_thenN|with_reducible apply q_blockN)
     all_goals (refine ⟨2,by omega,by omega,?_,?_⟩<;>(try simp only [show ¬ (2=0) by omega,show ¬ (2=1) by omega,if_false,if_true])<;>(repeat' (first|exact FrSub.nil|(apply FrSub.cons;exact rfl)|exact HpSub.refl _)))
 obtain rfl:k=2:=by omega
 simp only [show ¬ (2=0) by omega,show ¬ (2=1) by omega,if_false,if_true]
 repeat' (first|((with_reducible apply oq_id);first|((with_reducible apply oq_lssF);exact rfl;exact rfl;omega)|(apply oq_fn;exact rfl;first|exact trivial|(and_intros<;>omega)|omega|skip))|((with_reducible apply tl_id);first|(with_reducible apply tl_nil)|((with_reducible apply u_s);(iterate 3 exact rfl);(with_reducible apply os_callF (PV:=GrowP (nx+ny)) (hc:=Try.call190));exact rfl;exact rfl;exact fun D w1 hw1=>growP_calls (nx+ny) h0 (by omega) w1;rintro _ _ ⟨b,cap,hcap,rfl,rfl⟩;simp only [List.cons_append,List.nil_append])|((with_reducible apply u_q);(iterate 4 exact rfl)))|((with_reducible apply t_id);first|(with_reducible apply t_seq)|(apply t_region;kernel_rfl)|((with_reducible apply t_condF);exact rfl)|(with_reducible apply t_exit)|(with_reducible apply t_block))|with_reducible apply q_thenN|with_reducible apply q_thenE|((with_reducible apply q_blockE);exact rfl))
 apply t_loopK (ι:=Nat×Nat×Nat) [0,25,26] (fun z=>[(27,.int .i64 ((z.1:Nat):Int)),(6,.slice (some ⟨z.2.1,0,none⟩) (if z.1=0 then 0 else if z.1=1 then nx else nx+ny) z.2.2)]) (fun z=>[(z.2.1,coB Pv.x Pv.y (if z.1=0 then [] else if z.1=1 then l1 else l1++l2),some (111,2,z.2.2))]) (fun z=>z.1≤2) (fun z=>2-z.1) ((0,b,cap))
 (repeat (first|exact KeepF.nil|(apply KeepF.cons;exact rfl)|apply KeepF.skip))
 (repeat first|exact FrSub.nil|(apply FrSub.cons;exact rfl))
 (repeat (first|exact HpSub.refl _|(apply HpSub.consE;(repeat first|exact P0|apply P1);exact rfl)|exact HpSub.nil))
 · exact Nat.zero_le _
 rintro ⟨k,g,cg⟩ hk
 simp only at hk
 try simp only [List.cons_append,List.nil_append]
 by_cases hlt:k<2
 · rcases (show k=0∨k=1 by omega) with rfl|rfl
   · simp only [if_true]
     repeat' (first|((with_reducible apply oq_id);first|(focus ((with_reducible apply oq_indexAddrN);(iterate 4 exact rfl);omega))|((with_reducible apply oq_lssT);exact rfl;exact rfl;omega)|(apply oq_fn;exact rfl;first|exact trivial|(and_intros<;>omega)|omega|skip)|((with_reducible apply oq_load);exact rfl;exact rfl))|((with_reducible apply tl_id);first|(with_reducible apply tl_nil)|((with_reducible apply u_s);(iterate 3 exact rfl);((with_reducible apply (os_appendU (hk:=app_ok101) (rows:=l1.map (coC Pv.x Pv.y))));exact rfl;exact rfl;(repeat first|exact P0|apply P1);exact fun D w1 hw1=>h1.ext hw1.ext.ext;exact co_rl _;(first|exact rfl|(rw [co_flat_len];omega));exact co_one _;omega;omega;intro bN cN))|((with_reducible apply u_q);(iterate 4 exact rfl)))|((with_reducible apply rd_id);first|(apply Rd.old;(first|(with_reducible assumption)|exact c0|exact c1|exact c2|exact c3|exact c4|exact c5|exact c6|exact c7|exact c8|exact d0|exact d1|exact d2|exact d3|exact d4|exact d5);first|exact List.not_mem_nil|exact m0|exact m1|exact m2|exact m3|exact m4|exact m5|exact m6|exact m7|exact m8|exact m9))|((with_reducible apply t_id);first|(with_reducible apply t_seq)|(apply t_region;kernel_rfl)|((with_reducible apply t_condT);exact rfl)|(with_reducible apply t_skip)|(with_reducible apply t_block))|with_reducible apply q_thenN|with_reducible apply q_blockN)
     all_goals (refine ⟨(1,bN,cN),by simp only;omega,by simp only;omega,?_,?_⟩<;>(try simp only [show ¬ (1=0) by omega,if_false,if_true,List.map_nil,List.nil_append,Nat.zero_add])<;>(repeat' (first|exact FrSub.nil|(apply FrSub.cons;exact rfl)|exact HpSub.refl _)))
   · simp only [show ¬ (1=0) by omega,if_false,if_true]
     repeat' (first|((with_reducible apply oq_id);first|(focus ((with_reducible apply oq_indexAddrN);(iterate 4 exact rfl);omega))|((with_reducible apply oq_lssT);exact rfl;exact rfl;omega)|(apply oq_fn;exact rfl;first|exact trivial|(and_intros<;>omega)|omega|skip)|((with_reducible apply oq_load);exact rfl;exact rfl))|((with_reducible apply tl_id);first|(with_reducible apply tl_nil)|((with_reducible apply u_s);(iterate 3 exact rfl);((with_reducible apply (os_appendU (hk:=app_ok101) (rows:=l2.map (coC Pv.x Pv.y))));exact rfl;exact rfl;(repeat first|exact P0|apply P1);exact fun D w1 hw1=>h2.ext hw1.ext.ext;exact co_rl _;(first|exact rfl|(rw [co_flat_len];omega));exact co_one _;omega;omega;intro bN cN))|((with_reducible apply u_q);(iterate 4 exact rfl)))|((with_reducible apply rd_id);first|(apply Rd.old;(first|(with_reducible assumption)|exact c0|exact c1|exact c2|exact c3|exact c4|exact c5|exact c6|exact c7|exact c8|exact d0|exact d1|exact d2|exact d3|exact d4|exact d5);first|exact List.not_mem_nil|exact m0|exact m1|exact m2|exact m3|exact m4|exact m5|exact m6|exact m7|exact m8|exact m9))|((with_reducible apply t_id);first|(with_reducible apply t_seq)|(apply t_region;kernel_rfl)|((with_reducible apply t_condT);exact rfl)|(with_reducible apply t_skip)|(with_reducible apply t_block))|with_reducible apply q_thenN|with_reducible apply q_blockN)
     all_goals (refine ⟨(2,bN,cN),by simp only;omega,by simp only;omega,?_,?_⟩<;>(try simp only [show ¬ (2=0) by omega,show ¬ (2=1) by omega,if_false,if_true])<;>(repeat' (first|exact FrSub.nil|(apply FrSub.cons;exact rfl)|exact HpSub.refl _|(apply HpSub.consE;(repeat first|exact P0|apply P1);first|exact rfl|exact eC|(simp [coB];done)))))
 obtain rfl:k=2:=by omega
 simp only [show ¬ (2=0) by omega,show ¬ (2=1) by omega,if_false,if_true]
 repeat' (first|((with_reducible apply oq_id);first|((with_reducible apply oq_lssF);exact rfl;exact rfl;omega)|(apply oq_fn;exact rfl;first|exact trivial|(and_intros<;>omega)|omega|skip))|((with_reducible apply tl_id);first|(with_reducible apply tl_nil)|((with_reducible apply u_q);(iterate 4 exact rfl)))|((with_reducible apply t_id);first|(with_reducible apply t_seq)|(apply t_region;kernel_rfl)|((with_reducible apply t_condF);exact rfl)|(with_reducible apply t_ret)|(with_reducible apply t_exit))|with_reducible apply q_thenN|with_reducible apply q_thenE|((with_reducible apply q_blockE);exact rfl)|(with_reducible apply end_ret)|exact rvs_nil|(with_reducible apply rvs_cons)|((with_reducible apply rv_tmp);exact rfl))
 all_goals exact ⟨_,⟨g,cg,rfl,rfl⟩,by (try simp only [List.append_nil]);exact HpSub.refl _⟩
end Go.Proofs.Ytcjkndjjbjoehaa
