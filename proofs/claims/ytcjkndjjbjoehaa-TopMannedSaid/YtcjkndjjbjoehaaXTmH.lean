/- A part of the proof: rules for walks, and contracts of functions (8). -/
import Derived.Test.YtcjkndjjbjoehaaXTmG
import Derived.Test.YtcjkndjjbjoehaaXTmC
set_option linter.unusedVariables false
set_option linter.unusedSimpArgs false
set_option maxRecDepth 100000
set_option maxHeartbeats 2000000
namespace Go.Proofs.Ytcjkndjjbjoehaa
open Go.RowKit
attribute [local irreducible] OQ OS OX Rd T TL GX GL AL AI RV wpG SAny Calls
theorem stable_W (g cp n:Nat) (L:List Sh) (w:World) (hB:Blk w g (shB L) (some (91,3,cp))) (hn:L.length=n) (hn1:n≤1000000) :
   Calls Try.prog 186 #[.slice (some ⟨g,0,none⟩) n cp,.int .i64 (n:Nat),.func (.func 136) #[] #[]] w fun e w'=>e=.returned (.tuple #[])∧ExtM [g] w w'∧Blk w' g (shB (srtS L)) (some (91,3,cp)):=by
 refine enterW (c:=cxM [g] w 63) Try.func186 rfl rfl rfl rfl hB ?_
 refine t_cut (ι:=Unit) (fun _=>[(0,.slice (some ⟨g,0,none⟩) n cp),(1,.int .i64 (n:Nat)),(2,.func (.func 136) #[] #[]),(6,.int .i64 20)]) (fun _=>[(g,shB (L),some (91,3,cp))]) (fun _=>True) ?_ ?_
 · repeat' (first|((with_reducible apply oq_id);first|(apply oq_fn;exact rfl;first|exact trivial|(and_intros<;>omega)|omega|skip))|((with_reducible apply tl_id);first|(with_reducible apply tl_nil)|((with_reducible apply u_q);(iterate 4 exact rfl)))|((with_reducible apply t_id);first|(apply t_region;kernel_rfl)))
   all_goals exact ⟨rfl,(),trivial,by (repeat first|exact FrSub.nil|(apply FrSub.cons;exact rfl)),by (repeat (first|exact HpSub.refl _|(apply HpSub.consE;(repeat first|exact P0|apply P1);exact rfl)|exact HpSub.nil))⟩
 rintro ⟨⟩ -
 refine t_cut (ι:=Unit) (fun _=>[(0,.slice (some ⟨g,0,none⟩) n cp),(1,.int .i64 (n:Nat)),(2,.func (.func 136) #[] #[]),(6,.int .i64 20),(7,.int .i64 0),(8,.int .i64 20)]) (fun _=>[(g,shB (L),some (91,3,cp))]) (fun _=>True) ?_ ?_
 · repeat' (first|((with_reducible apply oq_id);first|(apply oq_fn;exact rfl;first|exact trivial|(and_intros<;>omega)|omega|skip))|((with_reducible apply tl_id);first|(with_reducible apply tl_nil)|((with_reducible apply u_q);(iterate 4 exact rfl)))|((with_reducible apply t_id);first|(apply t_region;kernel_rfl)))
   all_goals exact ⟨rfl,(),trivial,by (repeat first|exact FrSub.nil|(apply FrSub.cons;exact rfl)),by (repeat (first|exact HpSub.refl _|(apply HpSub.consE;(repeat first|exact P0|apply P1);exact rfl)|exact HpSub.nil))⟩
 rintro ⟨⟩ -
 refine t_cut (ι:=List Sh×List Sh×List Sh) (fun z=>[(0,.slice (some ⟨g,0,none⟩) n cp),(1,.int .i64 (n:Nat)),(2,.func (.func 136) #[] #[]),(6,.int .i64 20),(7,.int .i64 (z.1.length:Nat))]) (fun z=>[(g,shB (z.2.1++z.2.2),some (91,3,cp))]) (fun z=>Pf ltS 20 z.1 z.2.1∧L=z.1++z.2.2∧z.2.2.length<20) ?_ ?_
 · repeat' (first|((with_reducible apply t_id);first|(with_reducible apply t_block)))
   apply t_loopK (ι:=List Sh×List Sh×List Sh) [0,1,2,6] (fun z=>[(7,.int .i64 (z.1.length:Nat)),(8,.int .i64 ((z.1.length+20:Nat):Int))]) (fun z=>[(g,shB (z.2.1++z.2.2),some (91,3,cp))]) (fun z=>Pf ltS 20 z.1 z.2.1∧L=z.1++z.2.2) (fun z=>z.2.2.length) (([],[],L))
   (repeat (first|exact KeepF.nil|(apply KeepF.cons;exact rfl)|apply KeepF.skip))
   (repeat (first|exact FrSub.nil|(apply FrSub.cons;exact rfl)|(apply FrSub.consE;exact rfl;(congr 2;first|omega|(simp only;omega)|(simp only [List.length_nil];omega)|(simp only [List.length_append];omega)))))
   (repeat (first|exact HpSub.refl _|(apply HpSub.consE;(repeat first|exact P0|apply P1);exact rfl)|exact HpSub.nil))
   · exact ⟨Pf.zero,rfl⟩
   rintro ⟨A,P,R⟩ ⟨hP,hL⟩
   simp only at hP hL
   try dsimp only
   have hPl:=hP.len
   have hLl:A.length+R.length=n:=by rw [← hn,hL,List.length_append]
   by_cases hc:20≤R.length
   · obtain ⟨B,R2,hB2,rfl⟩:∃ B R2,B.length=20∧R=B++R2:=⟨R.take 20,R.drop 20,by simp;omega,(List.take_append_drop _ _).symm⟩
     simp only [List.length_append] at hLl hc
     repeat' (first|((with_reducible apply oq_id);first|((with_reducible apply oq_addE (k:=((A.length+20+20:Nat):Int)));exact rfl;exact rfl;omega)|((with_reducible apply oq_leqT);exact rfl;exact rfl;omega)|(apply oq_fn;exact rfl;first|exact trivial|(and_intros<;>omega)|omega|skip))|((with_reducible apply tl_id);first|(with_reducible apply tl_nil)|((with_reducible apply u_s);(iterate 3 exact rfl);(with_reducible apply os_callW (b:=g) (hc:=Try.call194));exact rfl;exact rfl;(repeat first|exact P0|apply P1);exact fun D w1 hw1=>ins_W g cp n A.length (A.length+20) P B R2 w1 (hw1.blkP (by (repeat first|exact P0|apply P1))) hPl (by omega) (by simp only [List.length_append];omega) hn1)|((with_reducible apply u_q);(iterate 4 exact rfl)))|((with_reducible apply t_id);first|(with_reducible apply t_seq)|(apply t_region;kernel_rfl)|((with_reducible apply t_condT);exact rfl)|(with_reducible apply t_skip)|(with_reducible apply t_block))|with_reducible apply q_thenN|with_reducible apply q_blockN)
     all_goals (refine ⟨(A++B,P++srtS B,R2),⟨hP.snoc hB2,(by rw [hL,List.append_assoc])⟩,(by simp only [List.length_append];omega),?_,?_⟩)
     all_goals first
       | ((try simp only [List.cons_append,List.nil_append]);(repeat (first|exact FrSub.nil|(apply FrSub.cons;exact rfl)|(apply FrSub.consE;exact rfl;(congr 2;first|omega|(simp only;omega)|(simp only [List.length_nil];omega)|(simp only [List.length_append];omega)))));done)
       | (simp only [List.append_assoc];(try simp only [List.cons_append,List.nil_append]);(repeat (first|exact HpSub.refl _|(apply HpSub.consE;(repeat first|exact P0|apply P1);exact rfl)|exact HpSub.nil));done)
   · repeat' (first|((with_reducible apply oq_id);first|((with_reducible apply oq_leqF);exact rfl;exact rfl;omega)|(apply oq_fn;exact rfl;first|exact trivial|(and_intros<;>omega)|omega|skip))|((with_reducible apply tl_id);first|(with_reducible apply tl_nil)|((with_reducible apply u_q);(iterate 4 exact rfl)))|((with_reducible apply t_id);first|(with_reducible apply t_seq)|(apply t_region;kernel_rfl)|((with_reducible apply t_condF);exact rfl)|(with_reducible apply t_exit))|with_reducible apply q_thenN|with_reducible apply q_thenE|((with_reducible apply q_blockE);exact rfl))
     all_goals exact ⟨rfl,(A,P,R),⟨hP,hL,by simp only;omega⟩,by (repeat first|exact FrSub.nil|(apply FrSub.cons;exact rfl)),by (repeat (first|exact HpSub.refl _|(apply HpSub.consE;(repeat first|exact P0|apply P1);exact rfl)|exact HpSub.nil))⟩
 rintro ⟨A,P,R⟩ ⟨hP,hL,hR⟩
 simp only at hP hL hR
 try dsimp only
 have hPl:=hP.len
 have hLl:A.length+R.length=n:=by rw [← hn,hL,List.length_append]
 refine t_cut (ι:=List Sh) (fun D0=>[(0,.slice (some ⟨g,0,none⟩) n cp),(1,.int .i64 (n:Nat)),(2,.func (.func 136) #[] #[]),(6,.int .i64 20)]) (fun D0=>[(g,shB (D0),some (91,3,cp))]) (fun D0=>Bl ltS 20 L D0) ?_ ?_
 · have hRn:P++R=P++(R++[]):=by rw [List.append_nil]
   rw [hRn]
   repeat' (first|((with_reducible apply oq_id);first|(apply oq_fn;exact rfl;first|exact trivial|(and_intros<;>omega)|omega|skip))|((with_reducible apply tl_id);first|(with_reducible apply tl_nil)|((with_reducible apply u_s);(iterate 3 exact rfl);(with_reducible apply os_callW (b:=g) (hc:=Try.call194));exact rfl;exact rfl;(repeat first|exact P0|apply P1);exact fun D w1 hw1=>ins_W g cp n A.length n P R [] w1 (hw1.blkP (by (repeat first|exact P0|apply P1))) hPl (by omega) (by simp only [List.length_append,List.length_nil];omega) hn1)|((with_reducible apply u_q);(iterate 4 exact rfl)))|((with_reducible apply t_id);first|(apply t_region;kernel_rfl)))
   all_goals exact ⟨rfl,P++(srtS R++[]),by (rw [hL,List.append_nil];exact hP.bl (.last (by omega))),by (repeat first|exact FrSub.nil|(apply FrSub.cons;exact rfl)),by (repeat (first|exact HpSub.refl _|(apply HpSub.consE;(repeat first|exact P0|apply P1);exact rfl)|exact HpSub.nil))⟩
 rintro D0 hD0
 try dsimp only
 clear hP hL hR hPl hLl A P R
 repeat' (first|((with_reducible apply t_id);first|(with_reducible apply t_block)))
 apply t_loopK (ι:=Nat×List Sh) [0,1,2] (fun z=>[(6,.int .i64 (z.1:Nat))]) (fun z=>[(g,shB (z.2),some (91,3,cp))]) (fun z=>20≤z.1∧z.1≤2000000∧Bl ltS z.1 L z.2) (fun z=>n-z.1) ((20,D0))
 (repeat (first|exact KeepF.nil|(apply KeepF.cons;exact rfl)|apply KeepF.skip))
 (repeat (first|exact FrSub.nil|(apply FrSub.cons;exact rfl)|(apply FrSub.consE;exact rfl;(congr 2;first|omega|(simp only;omega)|(simp only [List.length_nil];omega)|(simp only [List.length_append];omega)))))
 (repeat (first|exact HpSub.refl _|(apply HpSub.consE;(repeat first|exact P0|apply P1);exact rfl)|exact HpSub.nil))
 · exact ⟨Nat.le_refl _,(by simp only;omega),hD0⟩
 rintro ⟨s,D⟩ ⟨hs1,hs2,hD⟩
 simp only at hs1 hs2 hD
 try dsimp only
 have hDl:=hD.len
 by_cases hsn:s<n
 · refine t_cut (ι:=Unit) (fun _=>[(0,.slice (some ⟨g,0,none⟩) n cp),(1,.int .i64 (n:Nat)),(2,.func (.func 136) #[] #[]),(6,.int .i64 (s:Nat))]) (fun _=>[(g,shB (D),some (91,3,cp))]) (fun _=>True) ?_ ?_
   · repeat' (first|((with_reducible apply oq_id);first|((with_reducible apply oq_lssT);exact rfl;exact rfl;omega)|(apply oq_fn;exact rfl;first|exact trivial|(and_intros<;>omega)|omega|skip))|((with_reducible apply tl_id);first|(with_reducible apply tl_nil)|((with_reducible apply u_q);(iterate 4 exact rfl)))|((with_reducible apply t_id);first|(with_reducible apply t_seq)|(apply t_region;kernel_rfl)|((with_reducible apply t_condT);exact rfl)|(with_reducible apply t_skip))|with_reducible apply q_thenN)
     all_goals exact ⟨rfl,(),trivial,by (repeat first|exact FrSub.nil|(apply FrSub.cons;exact rfl)),by (repeat (first|exact HpSub.refl _|(apply HpSub.consE;(repeat first|exact P0|apply P1);exact rfl)|exact HpSub.nil))⟩
   rintro ⟨⟩ -
   refine t_block ?_
   refine t_cut (ι:=Unit) (fun _=>[(0,.slice (some ⟨g,0,none⟩) n cp),(1,.int .i64 (n:Nat)),(2,.func (.func 136) #[] #[]),(6,.int .i64 (s:Nat)),(7,.int .i64 0),(8,.int .i64 (2*s:Nat))]) (fun _=>[(g,shB (D),some (91,3,cp))]) (fun _=>True) ?_ ?_
   · repeat' (first|((with_reducible apply oq_id);first|(focus ((with_reducible apply (oq_mulE (k:=((2*s:Nat):Int))));exact rfl;exact rfl;omega;omega))|(apply oq_fn;exact rfl;first|exact trivial|(and_intros<;>omega)|omega|skip))|((with_reducible apply tl_id);first|(with_reducible apply tl_nil)|((with_reducible apply u_q);(iterate 4 exact rfl)))|((with_reducible apply t_id);first|(apply t_region;kernel_rfl)))
     all_goals exact ⟨rfl,(),trivial,by (repeat first|exact FrSub.nil|(apply FrSub.cons;exact rfl)),by (repeat (first|exact HpSub.refl _|(apply HpSub.consE;(repeat first|exact P0|apply P1);exact rfl)|exact HpSub.nil))⟩
   rintro ⟨⟩ -
   refine t_cut (ι:=List Sh×List Sh×List Sh×List Sh) (fun z=>[(0,.slice (some ⟨g,0,none⟩) n cp),(1,.int .i64 (n:Nat)),(2,.func (.func 136) #[] #[]),(6,.int .i64 (s:Nat)),(7,.int .i64 (z.1.length:Nat))]) (fun z=>[(g,shB (z.2.1++z.2.2.2),some (91,3,cp))]) (fun z=>Pf ltS (2*s) z.1 z.2.1∧Bl ltS s z.2.2.1 z.2.2.2∧L=z.1++z.2.2.1∧z.2.2.1.length<2*s) ?_ ?_
   · repeat' (first|((with_reducible apply t_id);first|(with_reducible apply t_block)))
     apply t_loopK (ι:=List Sh×List Sh×List Sh×List Sh) [0,1,2,6] (fun z=>[(7,.int .i64 (z.1.length:Nat)),(8,.int .i64 ((z.1.length+2*s:Nat):Int))]) (fun z=>[(g,shB (z.2.1++z.2.2.2),some (91,3,cp))]) (fun z=>Pf ltS (2*s) z.1 z.2.1∧Bl ltS s z.2.2.1 z.2.2.2∧L=z.1++z.2.2.1) (fun z=>z.2.2.1.length) (([],[],L,D))
     (repeat (first|exact KeepF.nil|(apply KeepF.cons;exact rfl)|apply KeepF.skip))
     (repeat (first|exact FrSub.nil|(apply FrSub.cons;exact rfl)|(apply FrSub.consE;exact rfl;(congr 2;first|omega|(simp only;omega)|(simp only [List.length_nil];omega)|(simp only [List.length_append];omega)))))
     (repeat (first|exact HpSub.refl _|(apply HpSub.consE;(repeat first|exact P0|apply P1);exact rfl)|exact HpSub.nil))
     · exact ⟨Pf.zero,hD,rfl⟩
     rintro ⟨A,P,R,E⟩ ⟨hP,hE,hL⟩
     simp only at hP hE hL
     try dsimp only
     have hPl:=hP.len
     have hLl:A.length+R.length=n:=by rw [← hn,hL,List.length_append]
     by_cases hc:2*s≤R.length
     · obtain ⟨B1,R1,E1,hB1,rfl,rfl,hE1⟩:=hE.split (by omega)
       simp only [List.length_append] at hLl hc
       obtain ⟨B2,R2,E2,hB2,rfl,rfl,hE2⟩:=hE1.split' (by omega)
       simp only [List.length_append] at hLl hc
       have el:=hE2.len
       have sl1:(srtS B1).length=s:=by rw [srtS,srt_len,hB1]
       have sl2:(srtS B2).length=s:=by rw [srtS,srt_len,hB2]
       repeat' (first|((with_reducible apply oq_id);first|((with_reducible apply oq_addE (k:=((A.length+s:Nat):Int)));exact rfl;exact rfl;omega)|(focus ((with_reducible apply (oq_mulE (k:=((2*s:Nat):Int))));exact rfl;exact rfl;omega;omega))|((with_reducible apply oq_addE (k:=((A.length+2*s+2*s:Nat):Int)));exact rfl;exact rfl;omega)|((with_reducible apply oq_leqT);exact rfl;exact rfl;omega)|(apply oq_fn;exact rfl;first|exact trivial|(and_intros<;>omega)|omega|skip))|((with_reducible apply tl_id);first|(with_reducible apply tl_nil)|((with_reducible apply u_s);(iterate 3 exact rfl);(with_reducible apply os_callW (b:=g) (hc:=Try.call195));exact rfl;exact rfl;(repeat first|exact P0|apply P1);exact fun D w1 hw1=>sym_W (2*s) g cp n A.length (A.length+s) (A.length+2*s) P (srtS B1) (srtS B2) E2 w1 (by omega) (hw1.blkP (by (repeat first|exact P0|apply P1))) (srt_srt woS _) (srt_srt woS _) (by omega) (by omega) hPl (by omega) (by omega) (by simp only [List.length_append];omega) hn1)|((with_reducible apply u_q);(iterate 4 exact rfl)))|((with_reducible apply t_id);first|(with_reducible apply t_seq)|(apply t_region;kernel_rfl)|((with_reducible apply t_condT);exact rfl)|(with_reducible apply t_skip)|(with_reducible apply t_block))|with_reducible apply q_thenN|with_reducible apply q_blockN)
       all_goals (refine ⟨(A++(B1++B2),P++srtS (B1++B2),R2,E2),⟨hP.snoc (by rw [List.length_append];omega),hE2,(by rw [hL];simp only [List.append_assoc])⟩,(by simp only [List.length_append];omega),?_,?_⟩)
       all_goals first
         | ((try simp only [List.cons_append,List.nil_append]);(repeat (first|exact FrSub.nil|(apply FrSub.cons;exact rfl)|(apply FrSub.consE;exact rfl;(congr 2;first|omega|(simp only;omega)|(simp only [List.length_nil];omega)|(simp only [List.length_append];omega)))));done)
         | (rw [show mrg ltS (srtS B1) (srtS B2)=srtS (B1++B2) from srt_app woS B1 B2];simp only [List.append_assoc];(try simp only [List.cons_append,List.nil_append]);(repeat (first|exact HpSub.refl _|(apply HpSub.consE;(repeat first|exact P0|apply P1);exact rfl)|exact HpSub.nil));done)
     · repeat' (first|((with_reducible apply oq_id);first|((with_reducible apply oq_leqF);exact rfl;exact rfl;omega)|(apply oq_fn;exact rfl;first|exact trivial|(and_intros<;>omega)|omega|skip))|((with_reducible apply tl_id);first|(with_reducible apply tl_nil)|((with_reducible apply u_q);(iterate 4 exact rfl)))|((with_reducible apply t_id);first|(with_reducible apply t_seq)|(apply t_region;kernel_rfl)|((with_reducible apply t_condF);exact rfl)|(with_reducible apply t_exit))|with_reducible apply q_thenN|with_reducible apply q_thenE|((with_reducible apply q_blockE);exact rfl))
       all_goals exact ⟨rfl,(A,P,R,E),⟨hP,hE,hL,by simp only;omega⟩,by (repeat first|exact FrSub.nil|(apply FrSub.cons;exact rfl)),by (repeat (first|exact HpSub.refl _|(apply HpSub.consE;(repeat first|exact P0|apply P1);exact rfl)|exact HpSub.nil))⟩
   rintro ⟨A,P,R,E⟩ ⟨hP,hE,hL,hR⟩
   simp only at hP hE hL hR
   try dsimp only
   have hPl:=hP.len
   have hLl:A.length+R.length=n:=by rw [← hn,hL,List.length_append]
   refine t_cut (ι:=List Sh) (fun D2=>[(0,.slice (some ⟨g,0,none⟩) n cp),(1,.int .i64 (n:Nat)),(2,.func (.func 136) #[] #[]),(6,.int .i64 (s:Nat))]) (fun D2=>[(g,shB (D2),some (91,3,cp))]) (fun D2=>Bl ltS (2*s) L D2) ?_ ?_
   · by_cases hc:s<R.length
     · obtain ⟨B1,R1,E1,hB1,rfl,rfl,hE1⟩:=hE.split hc
       simp only [List.length_append] at hLl hc hR
       obtain rfl:=hE1.small (by omega)
       have sl1:(srtS B1).length=s:=by rw [srtS,srt_len,hB1]
       have sl2:(srtS R1).length=R1.length:=by rw [srtS,srt_len]
       have hRn:P++(srtS B1++srt ltS R1)=P++(srtS B1++(srtS R1++[])):=by rw [List.append_nil]
       rw [hRn]
       repeat' (first|((with_reducible apply oq_id);first|((with_reducible apply oq_addE (k:=((A.length+s:Nat):Int)));exact rfl;exact rfl;omega)|((with_reducible apply oq_lssT);exact rfl;exact rfl;omega)|(apply oq_fn;exact rfl;first|exact trivial|(and_intros<;>omega)|omega|skip))|((with_reducible apply tl_id);first|(with_reducible apply tl_nil)|((with_reducible apply u_s);(iterate 3 exact rfl);(with_reducible apply os_callW (b:=g) (hc:=Try.call195));exact rfl;exact rfl;(repeat first|exact P0|apply P1);exact fun D w1 hw1=>sym_W (s+R1.length) g cp n A.length (A.length+s) n P (srtS B1) (srtS R1) [] w1 (by omega) (hw1.blkP (by (repeat first|exact P0|apply P1))) (srt_srt woS _) (srt_srt woS _) (by omega) (by omega) hPl (by omega) (by omega) (by simp only [List.length_append,List.length_nil];omega) hn1)|((with_reducible apply u_q);(iterate 4 exact rfl)))|((with_reducible apply t_id);first|(with_reducible apply t_seq)|(apply t_region;kernel_rfl)|((with_reducible apply t_condT);exact rfl))|with_reducible apply q_thenN)
       all_goals exact ⟨rfl,P++(mrg ltS (srtS B1) (srtS R1)++[]),(by rw [List.append_nil,srt_app woS,hL];exact hP.bl (.last (by simp only [List.length_append];omega))),by (repeat first|exact FrSub.nil|(apply FrSub.cons;exact rfl)),by (repeat (first|exact HpSub.refl _|(apply HpSub.consE;(repeat first|exact P0|apply P1);exact rfl)|exact HpSub.nil))⟩
     · obtain rfl:=hE.small (by omega)
       repeat' (first|((with_reducible apply oq_id);first|((with_reducible apply oq_addE (k:=((A.length+s:Nat):Int)));exact rfl;exact rfl;omega)|((with_reducible apply oq_lssF);exact rfl;exact rfl;omega)|(apply oq_fn;exact rfl;first|exact trivial|(and_intros<;>omega)|omega|skip))|((with_reducible apply tl_id);first|(with_reducible apply tl_nil)|((with_reducible apply u_q);(iterate 4 exact rfl)))|((with_reducible apply t_id);first|(with_reducible apply t_seq)|(apply t_region;kernel_rfl)|((with_reducible apply t_condF);exact rfl)|(with_reducible apply t_skip))|with_reducible apply q_thenN)
       all_goals exact ⟨rfl,P++srt ltS R,(by rw [hL];exact hP.bl (.last (by omega))),by (repeat first|exact FrSub.nil|(apply FrSub.cons;exact rfl)),by (repeat (first|exact HpSub.refl _|(apply HpSub.consE;(repeat first|exact P0|apply P1);exact rfl)|exact HpSub.nil))⟩
   rintro D2 hD2
   try dsimp only
   repeat' (first|((with_reducible apply oq_id);first|(focus ((with_reducible apply (oq_mulE (k:=((2*s:Nat):Int))));exact rfl;exact rfl;omega;omega))|(apply oq_fn;exact rfl;first|exact trivial|(and_intros<;>omega)|omega|skip))|((with_reducible apply tl_id);first|(with_reducible apply tl_nil)|((with_reducible apply u_q);(iterate 4 exact rfl)))|((with_reducible apply t_id);first|(apply t_region;kernel_rfl))|with_reducible apply q_thenN|with_reducible apply q_blockN)
   all_goals (refine ⟨(2*s,D2),⟨(by simp only;omega),(by simp only;omega),hD2⟩,(by simp only;omega),?_,?_⟩)
   all_goals first
     | ((try simp only [List.cons_append,List.nil_append]);(repeat (first|exact FrSub.nil|(apply FrSub.cons;exact rfl)|(apply FrSub.consE;exact rfl;(congr 2;first|omega|(simp only;omega)|(simp only [List.length_nil];omega)|(simp only [List.length_append];omega)))));done)
     | ((try simp only [List.cons_append,List.nil_append]);(repeat (first|exact HpSub.refl _|(apply HpSub.consE;(repeat first|exact P0|apply P1);exact rfl)|exact HpSub.nil));done)
 · rw [← show D=srtS L from hD.small (by omega)]
   repeat' (first|((with_reducible apply oq_id);first|((with_reducible apply oq_lssF);exact rfl;exact rfl;omega)|(apply oq_fn;exact rfl;first|exact trivial|(and_intros<;>omega)|omega|skip))|((with_reducible apply tl_id);first|(with_reducible apply tl_nil)|((with_reducible apply u_q);(iterate 4 exact rfl)))|((with_reducible apply t_id);first|(with_reducible apply t_seq)|(apply t_region;kernel_rfl)|((with_reducible apply t_condF);exact rfl)|(with_reducible apply t_exit))|with_reducible apply q_thenN|with_reducible apply q_thenE|((with_reducible apply q_blockE);exact rfl)|(with_reducible apply end_normal)|exact rvs_nil)
   all_goals exact ⟨rfl,by (repeat (first|exact HpSub.refl _|(apply HpSub.consE;(repeat first|exact P0|apply P1);exact rfl)|exact HpSub.nil))⟩
theorem sortS_W (g cp n:Nat) (L:List Sh) (w:World) (hB:Blk w g (shB L) (some (91,3,cp))) (hn:L.length=n) (hn1:n≤1000000) :
   Calls Try.prog 158 #[.slice (some ⟨g,0,none⟩) n cp,.func (.func 136) #[] #[]] w fun e w'=>e=.returned (.tuple #[])∧ExtM [g] w w'∧Blk w' g (shB (srtS L)) (some (91,3,cp)):=by
 refine enterW (c:=cxM [g] w 9) Try.func158 rfl rfl rfl rfl hB ?_
 repeat' (first|((with_reducible apply oq_id);first|(apply oq_fn;exact rfl;first|exact trivial|(and_intros<;>omega)|omega|skip))|((with_reducible apply tl_id);first|(with_reducible apply tl_nil)|((with_reducible apply u_s);(iterate 3 exact rfl);(with_reducible apply os_callW (b:=g) (hc:=Try.call186));exact rfl;exact rfl;(repeat first|exact P0|apply P1);exact fun D w1 hw1=>stable_W g cp n L w1 (hw1.blkP (by (repeat first|exact P0|apply P1))) hn hn1)|((with_reducible apply u_q);(iterate 4 exact rfl)))|((with_reducible apply t_id);first|(apply t_region;kernel_rfl))|(with_reducible apply end_normal)|exact rvs_nil)
 all_goals exact ⟨rfl,by (repeat (first|exact HpSub.refl _|(apply HpSub.consE;(repeat first|exact P0|apply P1);exact rfl)|exact HpSub.nil))⟩
theorem insNil (w:World):Calls Try.prog 194 #[.slice none 0 0,.int .i64 0,.int .i64 0,.func (.func 136) #[] #[]] w fun e w'=>e=.returned (.tuple #[])∧Ext w w':=by
 refine enterQ (c:=cx w 53) Try.func194 rfl rfl rfl rfl ?_
 repeat' (first|((with_reducible apply oq_id);first|(apply oq_fn;exact rfl;first|exact trivial|(and_intros<;>omega)|omega|skip))|((with_reducible apply tl_id);first|(with_reducible apply tl_nil)|((with_reducible apply u_q);(iterate 4 exact rfl)))|((with_reducible apply t_id);first|(with_reducible apply t_seq)|(apply t_region;kernel_rfl)|(with_reducible apply t_block))|with_reducible apply q_thenN)
 apply t_loopK (ι:=Unit) [0,1,2,3] (fun _=>[(8,.int .i64 1)]) (fun _=>[]) (fun _=>True) (fun _=>0) (())
 (repeat (first|exact KeepF.nil|(apply KeepF.cons;exact rfl)|apply KeepF.skip))
 (repeat first|exact FrSub.nil|(apply FrSub.cons;exact rfl))
 (repeat (first|exact HpSub.refl _|(apply HpSub.consE;(repeat first|exact P0|apply P1);exact rfl)|exact HpSub.nil))
 · trivial
 rintro ⟨⟩ -
 repeat' (first|((with_reducible apply oq_id);first|((with_reducible apply oq_lssF);exact rfl;exact rfl;omega)|(apply oq_fn;exact rfl;first|exact trivial|(and_intros<;>omega)|omega|skip))|((with_reducible apply tl_id);first|(with_reducible apply tl_nil)|((with_reducible apply u_q);(iterate 4 exact rfl)))|((with_reducible apply t_id);first|(with_reducible apply t_seq)|(apply t_region;kernel_rfl)|((with_reducible apply t_condF);exact rfl)|(with_reducible apply t_exit))|with_reducible apply q_thenN|with_reducible apply q_thenE|((with_reducible apply q_blockE);exact rfl)|(with_reducible apply end_normal)|exact rvs_nil)
 all_goals rfl
theorem stabNil (w:World):Calls Try.prog 186 #[.slice none 0 0,.int .i64 0,.func (.func 136) #[] #[]] w fun e w'=>e=.returned (.tuple #[])∧Ext w w':=by
 refine enterQ (c:=cx w 63) Try.func186 rfl rfl rfl rfl ?_
 repeat' (first|((with_reducible apply oq_id);first|(apply oq_fn;exact rfl;first|exact trivial|(and_intros<;>omega)|omega|skip))|((with_reducible apply tl_id);first|(with_reducible apply tl_nil)|((with_reducible apply u_q);(iterate 4 exact rfl)))|((with_reducible apply t_id);first|(with_reducible apply t_seq)|(apply t_region;kernel_rfl)|(with_reducible apply t_block))|with_reducible apply q_thenN)
 apply t_loopK (ι:=Unit) [0,1,2,6,9,23,24,25,26,28,29,30,31,32,33,34,35,36,37,38,39,40,41,42,44,45,46,47,48,49,50,51,52,53,54,55,56,57,58,59,61,62] (fun _=>[(6,.int .i64 20),(7,.int .i64 0),(8,.int .i64 20)]) (fun _=>[]) (fun _=>True) (fun _=>0) (())
 (repeat (first|exact KeepF.nil|(apply KeepF.cons;exact rfl)|apply KeepF.skip))
 (repeat first|exact FrSub.nil|(apply FrSub.cons;exact rfl))
 (repeat (first|exact HpSub.refl _|(apply HpSub.consE;(repeat first|exact P0|apply P1);exact rfl)|exact HpSub.nil))
 · trivial
 rintro ⟨⟩ -
 repeat' (first|((with_reducible apply oq_id);first|((with_reducible apply oq_leqF);exact rfl;exact rfl;omega)|(apply oq_fn;exact rfl;first|exact trivial|(and_intros<;>omega)|omega|skip)|((with_reducible apply oq_call (hc:=Try.call194));exact rfl;exact rfl;exact fun D w1 hw1=>insNil w1))|((with_reducible apply tl_id);first|(with_reducible apply tl_nil)|((with_reducible apply u_q);(iterate 4 exact rfl)))|((with_reducible apply t_id);first|(with_reducible apply t_seq)|(apply t_region;kernel_rfl)|((with_reducible apply t_condF);exact rfl)|(with_reducible apply t_exit)|(with_reducible apply t_block))|with_reducible apply q_thenN|with_reducible apply q_thenE|((with_reducible apply q_blockE);exact rfl))
 apply t_loopK (ι:=Unit) [0,1,2] (fun _=>[(6,.int .i64 20)]) (fun _=>[]) (fun _=>True) (fun _=>0) (())
 (repeat (first|exact KeepF.nil|(apply KeepF.cons;exact rfl)|apply KeepF.skip))
 (repeat first|exact FrSub.nil|(apply FrSub.cons;exact rfl))
 (repeat (first|exact HpSub.refl _|(apply HpSub.consE;(repeat first|exact P0|apply P1);exact rfl)|exact HpSub.nil))
 · trivial
 rintro ⟨⟩ -
 repeat' (first|((with_reducible apply oq_id);first|((with_reducible apply oq_lssF);exact rfl;exact rfl;omega)|(apply oq_fn;exact rfl;first|exact trivial|(and_intros<;>omega)|omega|skip))|((with_reducible apply tl_id);first|(with_reducible apply tl_nil)|((with_reducible apply u_q);(iterate 4 exact rfl)))|((with_reducible apply t_id);first|(with_reducible apply t_seq)|(apply t_region;kernel_rfl)|((with_reducible apply t_condF);exact rfl)|(with_reducible apply t_exit))|with_reducible apply q_thenN|with_reducible apply q_thenE|((with_reducible apply q_blockE);exact rfl)|(with_reducible apply end_normal)|exact rvs_nil)
 all_goals rfl
theorem sortNil (w:World):Calls Try.prog 158 #[.slice none 0 0,.func (.func 136) #[] #[]] w fun e w'=>e=.returned (.tuple #[])∧Ext w w':=by
 refine enterQ (c:=cx w 9) Try.func158 rfl rfl rfl rfl ?_
 repeat' (first|((with_reducible apply oq_id);first|(apply oq_fn;exact rfl;first|exact trivial|(and_intros<;>omega)|omega|skip)|((with_reducible apply oq_call (hc:=Try.call186));exact rfl;exact rfl;exact fun D w1 hw1=>stabNil w1))|((with_reducible apply tl_id);first|(with_reducible apply tl_nil)|((with_reducible apply u_q);(iterate 4 exact rfl)))|((with_reducible apply t_id);first|(apply t_region;kernel_rfl))|(with_reducible apply end_normal)|exact rvs_nil)
 all_goals rfl
def ArrO (S:List Sh) (v:Value) (H:Hp):Prop:=∃ x,(x=none→S.length=0)∧v=.slice (clA x) S.length (clC x)∧H=clH 91 3 (shB S) x
theorem arranged_T (A:Option Addr) (n c:Nat) (l:List Sh) (w:World) (hr:RdS w 3 A n (l.map shCells)) (hA:A=none→n=0∧c=0) (hn:n≤1000000) :
   Calls Try.prog 135 #[.slice A n c,.func (.func 136) #[] #[]] w fun e w'=>∃ v H',e=.returned v∧ArrO (srtS l) v H'∧Has w ⟨[],[]⟩ H' w':=by
 have hl:=hr.len
 simp only [List.length_map] at hl
 have hsl:(srtS l).length=n:=by rw [srtS,srt_len,hl]
 refine enterF (c:=cx w 11) Try.func135 rfl rfl rfl rfl ?_
 refine t_cut (ι:=Unit) (fun _=>[(0,.slice A n c),(1,.func (.func 136) #[] #[])]) (fun _=>[]) (fun _=>True) ?_ ?_
 · repeat' (first|((with_reducible apply oq_id);first|(apply oq_fn;exact rfl;first|exact trivial|(and_intros<;>omega)|omega|skip))|((with_reducible apply tl_id);first|(with_reducible apply tl_nil)|((with_reducible apply u_q);(iterate 4 exact rfl)))|((with_reducible apply t_id);first|(apply t_region;kernel_rfl)))
   all_goals exact ⟨rfl,(),trivial,by (repeat first|exact FrSub.nil|(apply FrSub.cons;exact rfl)),by (repeat (first|exact HpSub.refl _|(apply HpSub.consE;(repeat first|exact P0|apply P1);exact rfl)|exact HpSub.nil))⟩
 rintro ⟨⟩ -
 refine t_cut (ι:=Option (Nat×Nat)) (fun x=>[(0,.slice (clA x) n (clC x)),(1,.func (.func 136) #[] #[])]) (fun x=>clH 91 3 (shB l) x) (fun x=>x=none→n=0) ?_ ?_
 · repeat' (first|((with_reducible apply oq_id);first|(apply oq_fn;exact rfl;first|exact trivial|(and_intros<;>omega)|omega|skip))|((with_reducible apply tl_id);first|(with_reducible apply tl_nil)|((with_reducible apply u_s);(iterate 3 exact rfl);(with_reducible apply os_callF (PV:=CloneV 91 3 (shB l) n) (hc:=Try.call92));exact rfl;exact rfl;exact fun D w1 hw1=>cloneS_T A n c l w1 (hr.ext hw1.ext.ext) hA hn;rintro v H' ⟨x,hx,rfl,rfl⟩;(try simp only [List.append_nil]))|((with_reducible apply u_q);(iterate 4 exact rfl)))|((with_reducible apply t_id);first|(apply t_region;kernel_rfl)))
   all_goals exact ⟨by trivial,x,hx,by (repeat first|exact FrSub.nil|(apply FrSub.cons;exact rfl)),by (repeat (first|exact HpSub.refl _|apply HpSub.appC|exact HpSub.nil))⟩
 rintro x hx
 rcases x with _|⟨g,cp⟩
 · obtain rfl:=hx rfl
   simp only [clA,clC,clH]
   repeat' (first|((with_reducible apply oq_id);first|(apply oq_fn;exact rfl;first|exact trivial|(and_intros<;>omega)|omega|skip)|((with_reducible apply oq_call (hc:=Try.call158));exact rfl;exact rfl;exact fun D w1 hw1=>sortNil w1))|((with_reducible apply tl_id);first|(with_reducible apply tl_nil)|((with_reducible apply u_q);(iterate 4 exact rfl)))|((with_reducible apply t_id);first|(with_reducible apply t_seq)|(apply t_region;kernel_rfl)|(with_reducible apply t_ret))|with_reducible apply q_thenN|(with_reducible apply end_ret)|exact rvs_nil|(with_reducible apply rvs_cons)|((with_reducible apply rv_tmp);exact rfl))
   all_goals exact ⟨_,⟨none,fun _=>hsl,by rw [hsl];rfl,rfl⟩,HpSub.nil⟩
 · simp only [clA,clC,clH]
   repeat' (first|((with_reducible apply oq_id);first|(apply oq_fn;exact rfl;first|exact trivial|(and_intros<;>omega)|omega|skip))|((with_reducible apply tl_id);first|(with_reducible apply tl_nil)|((with_reducible apply u_s);(iterate 3 exact rfl);(with_reducible apply os_callW (b:=g) (hc:=Try.call158));exact rfl;exact rfl;(repeat first|exact P0|apply P1);exact fun D w1 hw1=>sortS_W g cp n l w1 (hw1.blkP (by (repeat first|exact P0|apply P1))) hl hn)|((with_reducible apply u_q);(iterate 4 exact rfl)))|((with_reducible apply t_id);first|(with_reducible apply t_seq)|(apply t_region;kernel_rfl)|(with_reducible apply t_ret))|with_reducible apply q_thenN|(with_reducible apply end_ret)|exact rvs_nil|(with_reducible apply rvs_cons)|((with_reducible apply rv_tmp);exact rfl))
   all_goals exact ⟨_,⟨some (g,cp),fun h=>(by cases h),by rw [hsl];rfl,rfl⟩,HpSub.refl _⟩
def FitAt (S:List Sh) (i:Nat):Prop:=∀ x,S[i]?=some x→shOk x∧∀ p,0<i→S[i-1]?=some p→p.who=x.who→p.to≤x.fr
theorem fit_all {S:List Sh}:Fit S↔∀ j,j<S.length→FitAt S j:=by
 constructor
 · intro h j _ x hx;exact h j x hx
 · intro h i x hx;exact h i (List.getElem?_eq_some_iff.1 hx).1 x hx
theorem allFrom_one {lo hi z:Int}:allFromK lo hi [z]=true↔lo≤z∧z≤hi:=by
 unfold allFromK;simp
theorem fitsR_calls (A:Option Addr) (n c:Nat) (l:List Sh) (w:World) (hr:RdS w 3 A n (l.map shCells)) (hA:A=none→n=0∧c=0) (hn:n≤1000000) :
   Calls Try.prog 90 #[.slice A n c] w fun e w'=>e=.returned (.bool (decide (Ros l)))∧Ext w w':=by
 have hl:=hr.len
 simp only [List.length_map] at hl
 obtain ⟨S,hS⟩:∃ S,srtS l=S:=⟨_,rfl⟩
 have hsl:S.length=n:=by rw [← hS,srtS,srt_len,hl]
 have hfa:Ros l↔∀ j,j<n→FitAt S j:=by rw [← fitS_iff l,hS,fit_all,hsl]
 refine enterQ (c:=cx w 63) Try.func90 rfl rfl rfl rfl ?_
 refine t_cut (ι:=Unit) (fun _=>[(0,.slice A n c)]) (fun _=>[]) (fun _=>True) ?_ ?_
 · repeat' (first|((with_reducible apply oq_id);first|(apply oq_fn;exact rfl;first|exact trivial|(and_intros<;>omega)|omega|skip))|((with_reducible apply tl_id);first|(with_reducible apply tl_nil)|((with_reducible apply u_q);(iterate 4 exact rfl)))|((with_reducible apply t_id);first|(apply t_region;kernel_rfl)))
   all_goals exact ⟨rfl,(),trivial,by (repeat first|exact FrSub.nil|(apply FrSub.cons;exact rfl)),by (repeat (first|exact HpSub.refl _|(apply HpSub.consE;(repeat first|exact P0|apply P1);exact rfl)|exact HpSub.nil))⟩
 rintro ⟨⟩ -
 refine t_cut (ι:=Option (Nat×Nat)) (fun x=>[(0,.slice (clA x) n (clC x))]) (fun x=>clH 91 3 (shB S) x) (fun x=>x=none→n=0) ?_ ?_
 · repeat' (first|((with_reducible apply oq_id);first|(apply oq_fn;exact rfl;first|exact trivial|(and_intros<;>omega)|omega|skip))|((with_reducible apply tl_id);first|(with_reducible apply tl_nil)|((with_reducible apply u_s);(iterate 3 exact rfl);(with_reducible apply os_callF (PV:=ArrO S) (hc:=Try.call135));exact rfl;exact rfl;exact fun D w1 hw1=>(by rw [← hS];exact arranged_T A n c l w1 (hr.ext hw1.ext.ext) hA hn);rintro v H' ⟨x,hx,rfl,rfl⟩;(try simp only [List.append_nil]))|((with_reducible apply u_q);(iterate 4 exact rfl)))|((with_reducible apply t_id);first|(apply t_region;kernel_rfl)))
   all_goals (rw [hsl] at hx)
   all_goals exact ⟨by trivial,x,hx,by (rw [hsl];(repeat first|exact FrSub.nil|(apply FrSub.cons;exact rfl))),by (repeat (first|exact HpSub.refl _|apply HpSub.appC|exact HpSub.nil))⟩
 rintro x hx
 rcases x with _|⟨g,cp⟩
 · obtain rfl:=hx rfl
   simp only [clA,clC,clH]
   rw [decide_eq_true (hfa.2 fun j hj=>by omega)]
   repeat' (first|((with_reducible apply oq_id);first|(apply oq_fn;exact rfl;first|exact trivial|(and_intros<;>omega)|omega|skip))|((with_reducible apply tl_id);first|(with_reducible apply tl_nil)|((with_reducible apply u_q);(iterate 4 exact rfl)))|((with_reducible apply t_id);first|(with_reducible apply t_seq)|(apply t_region;kernel_rfl)|(with_reducible apply t_block))|with_reducible apply q_thenN)
   apply t_loopK (ι:=Unit) [0,7,8] (fun _=>[(9,.int .i64 0)]) (fun _=>[]) (fun _=>True) (fun _=>0) (())
   (repeat (first|exact KeepF.nil|(apply KeepF.cons;exact rfl)|apply KeepF.skip))
   (repeat first|exact FrSub.nil|(apply FrSub.cons;exact rfl))
   (repeat (first|exact HpSub.refl _|(apply HpSub.consE;(repeat first|exact P0|apply P1);exact rfl)|exact HpSub.nil))
   · trivial
   rintro ⟨⟩ -
   repeat' (first|((with_reducible apply oq_id);first|((with_reducible apply oq_lssF);exact rfl;exact rfl;omega)|(apply oq_fn;exact rfl;first|exact trivial|(and_intros<;>omega)|omega|skip))|((with_reducible apply tl_id);first|(with_reducible apply tl_nil)|((with_reducible apply u_q);(iterate 4 exact rfl)))|((with_reducible apply t_id);first|(with_reducible apply t_seq)|(apply t_region;kernel_rfl)|((with_reducible apply t_condF);exact rfl)|(with_reducible apply t_ret)|(with_reducible apply t_exit))|with_reducible apply q_thenN|with_reducible apply q_thenE|((with_reducible apply q_blockE);exact rfl)|(with_reducible apply end_ret)|exact rvs_nil|(with_reducible apply rvs_cons)|((with_reducible apply rv_tmp);exact rfl))
   all_goals rfl
 · simp only [clA,clC,clH]
   repeat' (first|((with_reducible apply oq_id);first|(apply oq_fn;exact rfl;first|exact trivial|(and_intros<;>omega)|omega|skip))|((with_reducible apply tl_id);first|(with_reducible apply tl_nil)|((with_reducible apply u_q);(iterate 4 exact rfl)))|((with_reducible apply t_id);first|(with_reducible apply t_seq)|(apply t_region;kernel_rfl)|(with_reducible apply t_block))|with_reducible apply q_thenN)
   apply t_loopK (ι:=Nat) [0,7,8] (fun k=>[(9,.int .i64 (k:Nat))]) (fun _=>[(g,shB S,some (91,3,cp))]) (fun k=>k≤n∧∀ j,j<k→FitAt S j) (fun k=>n-k) (0)
   (repeat (first|exact KeepF.nil|(apply KeepF.cons;exact rfl)|apply KeepF.skip))
   (repeat first|exact FrSub.nil|(apply FrSub.cons;exact rfl))
   (repeat (first|exact HpSub.refl _|(apply HpSub.consE;(repeat first|exact P0|apply P1);exact rfl)|exact HpSub.nil))
   · exact ⟨Nat.zero_le _,fun j hj=>by omega⟩
   rintro k ⟨hk,hok⟩
   try simp only [List.cons_append,List.nil_append]
   by_cases hlt:k<n
   · obtain ⟨x,hx⟩:∃ x,S[k]?=some x:=⟨_,List.getElem?_eq_getElem (by omega)⟩
     obtain ⟨q0,q1,q2⟩:=sh_at hx
     obtain ⟨q,hq⟩:∃ q,allFromK 0 5 [x.who]=q:=⟨_,rfl⟩
     have hno:¬ FitAt S k→decide (Ros l)=false:=fun h=>decide_eq_false fun hc=>h (hfa.1 hc k hlt)
     cases q with
     | false=>
       have hw:¬ (0≤x.who∧x.who≤5):=by rw [← allFrom_one,hq];decide
       rw [hno fun h=>hw (h x hx).1.1]
       repeat' (first|((with_reducible apply oq_id);first|(focus ((with_reducible apply oq_indexAddrN);(iterate 4 exact rfl);omega))|((with_reducible apply oq_lssT);exact rfl;exact rfl;omega)|(apply oq_fn;exact rfl;first|exact trivial|(and_intros<;>omega)|omega|skip)|((with_reducible apply oq_load);exact rfl;exact rfl)|((with_reducible apply oq_loadAgg);exact rfl;exact rfl)|((with_reducible apply oq_call (hc:=Try.call87));exact rfl;exact rfl;exact fun D w1 hw1=>fromOneK hq hw1 (by (repeat first|exact P0|apply P1))))|((with_reducible apply tl_id);first|(with_reducible apply tl_nil)|((with_reducible apply u_q);(iterate 4 exact rfl))|((with_reducible apply u_s0);exact rfl;exact rfl)|((with_reducible apply u_s);(iterate 3 exact rfl)))|((with_reducible apply gx_id);first|(with_reducible apply v_nil)|((with_reducible apply v_q);(iterate 3 exact rfl))|((with_reducible apply v_skip);(iterate 3 exact rfl)))|((with_reducible apply os_id);first|((with_reducible apply os_x);exact rfl)|((with_reducible apply os_storeAgg);(iterate 5 exact rfl)))|((with_reducible apply ox_id);first|((with_reducible apply ox_alloc);exact rfl;intro _)|((with_reducible apply ox_buildSlice1);(iterate 6 exact rfl);intro _))|((with_reducible apply ai_id);first|((with_reducible apply ai_q);(iterate 5 exact rfl))|((with_reducible apply ai_x);(iterate 5 exact rfl)))|((with_reducible apply rd_id);first|(apply Rd.own;(repeat first|exact P0|apply P1);first|exact q0|exact q1|exact q2|exact r0|exact r1|exact r2;done)|(apply Rd.own;(repeat first|exact P0|apply P1);exact rfl;done))|((with_reducible apply t_id);first|(apply t_mix (id:=5) [0,1] 46 #[false,false,false,false,false,false,false,false,false,false,false,false,false,false,false,false,false,false,false,false,false,false,false,false,false,false,false,false,false,false,false,false,false,false,false,false,false,false,false,false,false,false,false,false,false,false,false,false];kernel_rfl;kernel_rfl;exact rfl)|(with_reducible apply t_seq)|(apply t_region;kernel_rfl)|((with_reducible apply t_condT);exact rfl)|(with_reducible apply t_ret)|(with_reducible apply t_skip)|(with_reducible apply t_block))|with_reducible apply q_thenN|with_reducible apply q_thenR|with_reducible apply q_blockR|exact P0|exact Rdn.zero|apply Rdn.succ|((with_reducible apply Norm.nil);exact rfl)|((with_reducible apply Norm.cons);exact rfl)|(with_reducible apply end_ret)|exact rvs_nil|(with_reducible apply rvs_cons)|((with_reducible apply rv_tmp);exact rfl)|((with_reducible apply al_id);first|(apply al_more [4,5,6,7,8,9,10,11,12,13,14,15,16,17,18,19,20,21,22,23,24,25,26,27,28,29,30,31,32,33,34,35,36,37,38,39,40,41,42,43,44,45,46,47] 0;decide +kernel;exact rfl;exact rfl;focus (repeat (first|exact HpSub.refl _|(apply HpSub.cons;(repeat first|exact P0|apply P1))|apply HpSub.skipX|exact HpSub.nil)))|(apply al_done;decide +kernel)|(apply al_one 2;decide +kernel)|(apply al_one 3;decide +kernel))|exact Nat.le_of_ble_eq_true rfl)
       all_goals rfl
     | true=>
       have hw:0≤x.who∧x.who≤5:=allFrom_one.1 hq
       by_cases h1:x.fr<0
       · rw [hno fun h=>by have:=(h x hx).1;unfold shOk at this;omega]
         repeat' (first|((with_reducible apply oq_id);first|(focus ((with_reducible apply oq_indexAddrN);(iterate 4 exact rfl);omega))|((with_reducible apply oq_lssT);exact rfl;exact rfl;omega)|(apply oq_fn;exact rfl;first|exact trivial|(and_intros<;>omega)|omega|skip)|((with_reducible apply oq_load);exact rfl;exact rfl)|((with_reducible apply oq_loadAgg);exact rfl;exact rfl)|((with_reducible apply oq_call (hc:=Try.call87));exact rfl;exact rfl;exact fun D w1 hw1=>fromOneK hq hw1 (by (repeat first|exact P0|apply P1))))|((with_reducible apply tl_id);first|(with_reducible apply tl_nil)|((with_reducible apply u_q);(iterate 4 exact rfl))|((with_reducible apply u_s0);exact rfl;exact rfl)|((with_reducible apply u_s);(iterate 3 exact rfl)))|((with_reducible apply gx_id);first|(with_reducible apply v_nil)|((with_reducible apply v_q);(iterate 3 exact rfl))|((with_reducible apply v_skip);(iterate 3 exact rfl)))|((with_reducible apply os_id);first|((with_reducible apply os_x);exact rfl)|((with_reducible apply os_storeAgg);(iterate 5 exact rfl)))|((with_reducible apply ox_id);first|((with_reducible apply ox_alloc);exact rfl;intro _)|((with_reducible apply ox_buildSlice1);(iterate 6 exact rfl);intro _))|((with_reducible apply ai_id);first|((with_reducible apply ai_q);(iterate 5 exact rfl))|((with_reducible apply ai_x);(iterate 5 exact rfl)))|((with_reducible apply rd_id);first|(apply Rd.own;(repeat first|exact P0|apply P1);first|exact q0|exact q1|exact q2|exact r0|exact r1|exact r2;done)|(apply Rd.own;(repeat first|exact P0|apply P1);exact rfl;done))|((with_reducible apply t_id);first|(apply t_mix (id:=5) [0,1] 46 #[false,false,false,false,false,false,false,false,false,false,false,false,false,false,false,false,false,false,false,false,false,false,false,false,false,false,false,false,false,false,false,false,false,false,false,false,false,false,false,false,false,false,false,false,false,false,false,false];kernel_rfl;kernel_rfl;exact rfl)|(with_reducible apply t_seq)|(apply t_region;kernel_rfl)|((with_reducible apply t_condT);exact rfl)|(with_reducible apply t_ret)|(with_reducible apply t_skip)|(with_reducible apply t_block))|with_reducible apply q_thenN|with_reducible apply q_thenR|with_reducible apply q_blockR|exact P0|exact Rdn.zero|apply Rdn.succ|((with_reducible apply Norm.nil);exact rfl)|((with_reducible apply Norm.cons);exact rfl)|(with_reducible apply end_ret)|exact rvs_nil|(with_reducible apply rvs_cons)|((with_reducible apply rv_tmp);exact rfl)|((with_reducible apply al_id);first|(apply al_more [4,5,6,7,8,9,10,11,12,13,14,15,16,17,18,19,20,21,22,23,24,25,26,27,28,29,30,31,32,33,34,35,36,37,38,39,40,41,42,43,44,45,46,47] 0;decide +kernel;exact rfl;exact rfl;focus (repeat (first|exact HpSub.refl _|(apply HpSub.cons;(repeat first|exact P0|apply P1))|apply HpSub.skipX|exact HpSub.nil)))|(apply al_done;decide +kernel)|(apply al_one 2;decide +kernel)|(apply al_one 3;decide +kernel))|exact Nat.le_of_ble_eq_true rfl)
         all_goals rfl
       by_cases h2:x.to≤x.fr
       · rw [hno fun h=>by have:=(h x hx).1;unfold shOk at this;omega]
         repeat' (first|((with_reducible apply oq_id);first|(focus ((with_reducible apply oq_indexAddrN);(iterate 4 exact rfl);omega))|((with_reducible apply oq_lssT);exact rfl;exact rfl;omega)|((with_reducible apply oq_lssF);exact rfl;exact rfl;omega)|((with_reducible apply oq_geqT);exact rfl;exact rfl;omega)|(apply oq_fn;exact rfl;first|exact trivial|(and_intros<;>omega)|omega|skip)|((with_reducible apply oq_load);exact rfl;exact rfl)|((with_reducible apply oq_loadAgg);exact rfl;exact rfl)|((with_reducible apply oq_call (hc:=Try.call87));exact rfl;exact rfl;exact fun D w1 hw1=>fromOneK hq hw1 (by (repeat first|exact P0|apply P1))))|((with_reducible apply tl_id);first|(with_reducible apply tl_nil)|((with_reducible apply u_q);(iterate 4 exact rfl))|((with_reducible apply u_s0);exact rfl;exact rfl)|((with_reducible apply u_s);(iterate 3 exact rfl)))|((with_reducible apply gx_id);first|(with_reducible apply v_nil)|((with_reducible apply v_q);(iterate 3 exact rfl))|((with_reducible apply v_skip);(iterate 3 exact rfl)))|((with_reducible apply os_id);first|((with_reducible apply os_x);exact rfl)|((with_reducible apply os_storeAgg);(iterate 5 exact rfl)))|((with_reducible apply ox_id);first|((with_reducible apply ox_alloc);exact rfl;intro _)|((with_reducible apply ox_buildSlice1);(iterate 6 exact rfl);intro _))|((with_reducible apply ai_id);first|((with_reducible apply ai_q);(iterate 5 exact rfl))|((with_reducible apply ai_x);(iterate 5 exact rfl)))|((with_reducible apply rd_id);first|(apply Rd.own;(repeat first|exact P0|apply P1);first|exact q0|exact q1|exact q2|exact r0|exact r1|exact r2;done)|(apply Rd.own;(repeat first|exact P0|apply P1);exact rfl;done))|((with_reducible apply t_id);first|(apply t_mix (id:=5) [0,1] 46 #[false,false,false,false,false,false,false,false,false,false,false,false,false,false,false,false,false,false,false,false,false,false,false,false,false,false,false,false,false,false,false,false,false,false,false,false,false,false,false,false,false,false,false,false,false,false,false,false];kernel_rfl;kernel_rfl;exact rfl)|(with_reducible apply t_seq)|(apply t_region;kernel_rfl)|((with_reducible apply t_condT);exact rfl)|(with_reducible apply t_ret)|(with_reducible apply t_skip)|(with_reducible apply t_block))|with_reducible apply q_thenN|with_reducible apply q_thenR|with_reducible apply q_blockR|exact P0|exact Rdn.zero|apply Rdn.succ|((with_reducible apply Norm.nil);exact rfl)|((with_reducible apply Norm.cons);exact rfl)|(with_reducible apply end_ret)|exact rvs_nil|(with_reducible apply rvs_cons)|((with_reducible apply rv_tmp);exact rfl)|((with_reducible apply al_id);first|(apply al_more [4,5,6,7,8,9,10,11,12,13,14,15,16,17,18,19,20,21,22,23,24,25,26,27,28,29,30,31,32,33,34,35,36,37,38,39,40,41,42,43,44,45,46,47] 0;decide +kernel;exact rfl;exact rfl;focus (repeat (first|exact HpSub.refl _|(apply HpSub.cons;(repeat first|exact P0|apply P1))|apply HpSub.skipX|exact HpSub.nil)))|(apply al_done;decide +kernel)|(apply al_one 2;decide +kernel)|(apply al_one 3;decide +kernel))|exact Nat.le_of_ble_eq_true rfl)
         all_goals rfl
       by_cases h3:1000000<x.to
       · rw [hno fun h=>by have:=(h x hx).1;unfold shOk at this;omega]
         repeat' (first|((with_reducible apply oq_id);first|(focus ((with_reducible apply oq_indexAddrN);(iterate 4 exact rfl);omega))|((with_reducible apply oq_lssT);exact rfl;exact rfl;omega)|((with_reducible apply oq_lssF);exact rfl;exact rfl;omega)|((with_reducible apply oq_geqF);exact rfl;exact rfl;omega)|((with_reducible apply oq_gtrT);exact rfl;exact rfl;omega)|(apply oq_fn;exact rfl;first|exact trivial|(and_intros<;>omega)|omega|skip)|((with_reducible apply oq_load);exact rfl;exact rfl)|((with_reducible apply oq_loadAgg);exact rfl;exact rfl)|((with_reducible apply oq_call (hc:=Try.call87));exact rfl;exact rfl;exact fun D w1 hw1=>fromOneK hq hw1 (by (repeat first|exact P0|apply P1))))|((with_reducible apply tl_id);first|(with_reducible apply tl_nil)|((with_reducible apply u_q);(iterate 4 exact rfl))|((with_reducible apply u_s0);exact rfl;exact rfl)|((with_reducible apply u_s);(iterate 3 exact rfl)))|((with_reducible apply gx_id);first|(with_reducible apply v_nil)|((with_reducible apply v_q);(iterate 3 exact rfl))|((with_reducible apply v_skip);(iterate 3 exact rfl)))|((with_reducible apply os_id);first|((with_reducible apply os_x);exact rfl)|((with_reducible apply os_storeAgg);(iterate 5 exact rfl)))|((with_reducible apply ox_id);first|((with_reducible apply ox_alloc);exact rfl;intro _)|((with_reducible apply ox_buildSlice1);(iterate 6 exact rfl);intro _))|((with_reducible apply ai_id);first|((with_reducible apply ai_q);(iterate 5 exact rfl))|((with_reducible apply ai_x);(iterate 5 exact rfl)))|((with_reducible apply rd_id);first|(apply Rd.own;(repeat first|exact P0|apply P1);first|exact q0|exact q1|exact q2|exact r0|exact r1|exact r2;done)|(apply Rd.own;(repeat first|exact P0|apply P1);exact rfl;done))|((with_reducible apply t_id);first|(apply t_mix (id:=5) [0,1] 46 #[false,false,false,false,false,false,false,false,false,false,false,false,false,false,false,false,false,false,false,false,false,false,false,false,false,false,false,false,false,false,false,false,false,false,false,false,false,false,false,false,false,false,false,false,false,false,false,false];kernel_rfl;kernel_rfl;exact rfl)|(with_reducible apply t_seq)|(apply t_region;kernel_rfl)|((with_reducible apply t_condT);exact rfl)|(with_reducible apply t_ret)|(with_reducible apply t_skip)|(with_reducible apply t_block))|with_reducible apply q_thenN|with_reducible apply q_thenR|with_reducible apply q_blockR|exact P0|exact Rdn.zero|apply Rdn.succ|((with_reducible apply Norm.nil);exact rfl)|((with_reducible apply Norm.cons);exact rfl)|(with_reducible apply end_ret)|exact rvs_nil|(with_reducible apply rvs_cons)|((with_reducible apply rv_tmp);exact rfl)|((with_reducible apply al_id);first|(apply al_more [4,5,6,7,8,9,10,11,12,13,14,15,16,17,18,19,20,21,22,23,24,25,26,27,28,29,30,31,32,33,34,35,36,37,38,39,40,41,42,43,44,45,46,47] 0;decide +kernel;exact rfl;exact rfl;focus (repeat (first|exact HpSub.refl _|(apply HpSub.cons;(repeat first|exact P0|apply P1))|apply HpSub.skipX|exact HpSub.nil)))|(apply al_done;decide +kernel)|(apply al_one 2;decide +kernel)|(apply al_one 3;decide +kernel))|exact Nat.le_of_ble_eq_true rfl)
         all_goals rfl
       have hxo:shOk x:=⟨hw,by omega,by omega,by omega⟩
       have hnext:FitAt S k→∀ j,j<k+1→FitAt S j:=fun h j hj=>by
         by_cases hjk:j=k
         · subst hjk;exact h
         · exact hok j (by omega)
       by_cases h4:k=0
       · subst h4
         repeat' (first|((with_reducible apply oq_id);first|(focus ((with_reducible apply oq_indexAddrN);(iterate 4 exact rfl);omega))|((with_reducible apply oq_lssT);exact rfl;exact rfl;omega)|((with_reducible apply oq_lssF);exact rfl;exact rfl;omega)|((with_reducible apply oq_geqF);exact rfl;exact rfl;omega)|((with_reducible apply oq_gtrF);exact rfl;exact rfl;omega)|(apply oq_fn;exact rfl;first|exact trivial|(and_intros<;>omega)|omega|skip)|((with_reducible apply oq_load);exact rfl;exact rfl)|((with_reducible apply oq_loadAgg);exact rfl;exact rfl)|((with_reducible apply oq_call (hc:=Try.call87));exact rfl;exact rfl;exact fun D w1 hw1=>fromOneK hq hw1 (by (repeat first|exact P0|apply P1))))|((with_reducible apply tl_id);first|(with_reducible apply tl_nil)|((with_reducible apply u_q);(iterate 4 exact rfl))|((with_reducible apply u_s0);exact rfl;exact rfl)|((with_reducible apply u_s);(iterate 3 exact rfl)))|((with_reducible apply gx_id);first|(with_reducible apply v_nil)|((with_reducible apply v_q);(iterate 3 exact rfl))|((with_reducible apply v_skip);(iterate 3 exact rfl)))|((with_reducible apply os_id);first|((with_reducible apply os_x);exact rfl)|((with_reducible apply os_storeAgg);(iterate 5 exact rfl)))|((with_reducible apply ox_id);first|((with_reducible apply ox_alloc);exact rfl;intro _)|((with_reducible apply ox_buildSlice1);(iterate 6 exact rfl);intro _))|((with_reducible apply ai_id);first|((with_reducible apply ai_q);(iterate 5 exact rfl))|((with_reducible apply ai_x);(iterate 5 exact rfl)))|((with_reducible apply rd_id);first|(apply Rd.own;(repeat first|exact P0|apply P1);first|exact q0|exact q1|exact q2|exact r0|exact r1|exact r2;done)|(apply Rd.own;(repeat first|exact P0|apply P1);exact rfl;done))|((with_reducible apply t_id);first|(apply t_mix (id:=5) [0,1] 46 #[false,false,false,false,false,false,false,false,false,false,false,false,false,false,false,false,false,false,false,false,false,false,false,false,false,false,false,false,false,false,false,false,false,false,false,false,false,false,false,false,false,false,false,false,false,false,false,false];kernel_rfl;kernel_rfl;exact rfl)|(with_reducible apply t_seq)|(apply t_region;kernel_rfl)|((with_reducible apply t_condT);exact rfl)|((with_reducible apply t_condF);exact rfl)|(with_reducible apply t_skip)|(with_reducible apply t_block))|with_reducible apply q_thenN|with_reducible apply q_blockN|exact P0|exact Rdn.zero|apply Rdn.succ|((with_reducible apply Norm.nil);exact rfl)|((with_reducible apply Norm.cons);exact rfl)|((with_reducible apply al_id);first|(apply al_more [4,5,6,7,8,9,10,11,12,13,14,15,16,17,18,19,20,21,22,23,24,25,26,27,28,29,30,31,32,33,34,35,36,37,38,39,40,41,42,43,44,45,46,47] 0;decide +kernel;exact rfl;exact rfl;focus (repeat (first|exact HpSub.refl _|(apply HpSub.cons;(repeat first|exact P0|apply P1))|apply HpSub.skipX|exact HpSub.nil)))|(apply al_done;decide +kernel)|(apply al_one 2;decide +kernel)|(apply al_one 3;decide +kernel))|exact Nat.le_of_ble_eq_true rfl)
         all_goals (refine ⟨1,⟨by omega,hnext fun y hy=>by rw [hx] at hy;cases hy;exact ⟨hxo,fun p hp=>by omega⟩⟩,(by omega),?_,?_⟩<;>(try simp only [List.cons_append,List.nil_append])<;>(repeat' (first|exact FrSub.nil|(apply FrSub.cons;exact rfl)|(apply HpSub.consE;(repeat first|exact P0|apply P1);exact rfl)|exact HpSub.nil)))
       obtain ⟨y,hy⟩:∃ y,S[k-1]?=some y:=⟨_,List.getElem?_eq_getElem (by omega)⟩
       obtain ⟨r0,r1,r2⟩:=sh_at hy
       by_cases h5:y.who=x.who
       · by_cases h6:y.to≤x.fr
         · repeat' (first|((with_reducible apply oq_id);first|(focus ((with_reducible apply oq_indexAddrN);(iterate 4 exact rfl);omega))|((with_reducible apply oq_subE (k:=((k-1:Nat):Int)));exact rfl;exact rfl;omega)|((with_reducible apply oq_lssT);exact rfl;exact rfl;omega)|((with_reducible apply oq_lssF);exact rfl;exact rfl;omega)|((with_reducible apply oq_geqF);exact rfl;exact rfl;omega)|((with_reducible apply oq_gtrT);exact rfl;exact rfl;omega)|((with_reducible apply oq_gtrF);exact rfl;exact rfl;omega)|((with_reducible apply oq_eqlT);exact rfl;exact rfl;omega)|(apply oq_fn;exact rfl;first|exact trivial|(and_intros<;>omega)|omega|skip)|((with_reducible apply oq_load);exact rfl;exact rfl)|((with_reducible apply oq_loadAgg);exact rfl;exact rfl)|((with_reducible apply oq_call (hc:=Try.call87));exact rfl;exact rfl;exact fun D w1 hw1=>fromOneK hq hw1 (by (repeat first|exact P0|apply P1))))|((with_reducible apply tl_id);first|(with_reducible apply tl_nil)|((with_reducible apply u_q);(iterate 4 exact rfl))|((with_reducible apply u_s0);exact rfl;exact rfl)|((with_reducible apply u_s);(iterate 3 exact rfl)))|((with_reducible apply gx_id);first|(with_reducible apply v_nil)|((with_reducible apply v_q);(iterate 3 exact rfl)))|((with_reducible apply os_id);first|((with_reducible apply os_x);exact rfl)|((with_reducible apply os_storeAgg);(iterate 5 exact rfl)))|((with_reducible apply ox_id);first|((with_reducible apply ox_alloc);exact rfl;intro _)|((with_reducible apply ox_buildSlice1);(iterate 6 exact rfl);intro _))|((with_reducible apply ai_id);first|((with_reducible apply ai_q);(iterate 5 exact rfl))|((with_reducible apply ai_x);(iterate 5 exact rfl)))|((with_reducible apply rd_id);first|(apply Rd.own;(repeat first|exact P0|apply P1);first|exact q0|exact q1|exact q2|exact r0|exact r1|exact r2;done)|(apply Rd.own;(repeat first|exact P0|apply P1);exact rfl;done))|((with_reducible apply t_id);first|(apply t_mix (id:=5) [0,1] 46 #[false,false,false,false,false,false,false,false,false,false,false,false,false,false,false,false,false,false,false,false,false,false,false,false,false,false,false,false,false,false,false,false,false,false,false,false,false,false,false,false,false,false,false,false,false,false,false,false];kernel_rfl;kernel_rfl;exact rfl)|(with_reducible apply t_seq)|(apply t_region;kernel_rfl)|((with_reducible apply t_condT);exact rfl)|((with_reducible apply t_condF);exact rfl)|(with_reducible apply t_skip)|(with_reducible apply t_block))|with_reducible apply q_thenN|with_reducible apply q_blockN|exact P0|exact Rdn.zero|apply Rdn.succ|((with_reducible apply Norm.nil);exact rfl)|((with_reducible apply Norm.cons);exact rfl)|((with_reducible apply al_id);first|(apply al_more [4,5,6,7,8,9,10,11,12,13,14,15,16,17,18,19,20,21,22,23,24,25,26,27,28,29,30,31,32,33,34,35,36,37,38,39,40,41,42,43,44,45,46,47] 0;decide +kernel;exact rfl;exact rfl;focus (repeat (first|exact HpSub.refl _|(apply HpSub.cons;(repeat first|exact P0|apply P1))|apply HpSub.skipX|exact HpSub.nil)))|(apply al_done;decide +kernel)|(apply al_one 2;decide +kernel)|(apply al_one 3;decide +kernel))|exact Nat.le_of_ble_eq_true rfl)
           all_goals (refine ⟨(k+1),⟨by omega,hnext fun z hz=>by rw [hx] at hz;cases hz;exact ⟨hxo,fun p _ hp _=>by rw [hy] at hp;cases hp;exact h6⟩⟩,(by omega),?_,?_⟩<;>(try simp only [List.cons_append,List.nil_append])<;>(repeat' (first|exact FrSub.nil|(apply FrSub.cons;exact rfl)|(apply HpSub.consE;(repeat first|exact P0|apply P1);exact rfl)|exact HpSub.nil)))
         · rw [hno fun h=>h6 ((h x hx).2 y (by omega) hy h5)]
           repeat' (first|((with_reducible apply oq_id);first|(focus ((with_reducible apply oq_indexAddrN);(iterate 4 exact rfl);omega))|((with_reducible apply oq_subE (k:=((k-1:Nat):Int)));exact rfl;exact rfl;omega)|((with_reducible apply oq_lssT);exact rfl;exact rfl;omega)|((with_reducible apply oq_lssF);exact rfl;exact rfl;omega)|((with_reducible apply oq_geqF);exact rfl;exact rfl;omega)|((with_reducible apply oq_gtrT);exact rfl;exact rfl;omega)|((with_reducible apply oq_gtrF);exact rfl;exact rfl;omega)|((with_reducible apply oq_eqlT);exact rfl;exact rfl;omega)|(apply oq_fn;exact rfl;first|exact trivial|(and_intros<;>omega)|omega|skip)|((with_reducible apply oq_load);exact rfl;exact rfl)|((with_reducible apply oq_loadAgg);exact rfl;exact rfl)|((with_reducible apply oq_call (hc:=Try.call87));exact rfl;exact rfl;exact fun D w1 hw1=>fromOneK hq hw1 (by (repeat first|exact P0|apply P1))))|((with_reducible apply tl_id);first|(with_reducible apply tl_nil)|((with_reducible apply u_q);(iterate 4 exact rfl))|((with_reducible apply u_s0);exact rfl;exact rfl)|((with_reducible apply u_s);(iterate 3 exact rfl)))|((with_reducible apply gx_id);first|(with_reducible apply v_nil)|((with_reducible apply v_q);(iterate 3 exact rfl)))|((with_reducible apply os_id);first|((with_reducible apply os_x);exact rfl)|((with_reducible apply os_storeAgg);(iterate 5 exact rfl)))|((with_reducible apply ox_id);first|((with_reducible apply ox_alloc);exact rfl;intro _)|((with_reducible apply ox_buildSlice1);(iterate 6 exact rfl);intro _))|((with_reducible apply ai_id);first|((with_reducible apply ai_q);(iterate 5 exact rfl))|((with_reducible apply ai_x);(iterate 5 exact rfl)))|((with_reducible apply rd_id);first|(apply Rd.own;(repeat first|exact P0|apply P1);first|exact q0|exact q1|exact q2|exact r0|exact r1|exact r2;done)|(apply Rd.own;(repeat first|exact P0|apply P1);exact rfl;done))|((with_reducible apply t_id);first|(apply t_mix (id:=5) [0,1] 46 #[false,false,false,false,false,false,false,false,false,false,false,false,false,false,false,false,false,false,false,false,false,false,false,false,false,false,false,false,false,false,false,false,false,false,false,false,false,false,false,false,false,false,false,false,false,false,false,false];kernel_rfl;kernel_rfl;exact rfl)|(with_reducible apply t_seq)|(apply t_region;kernel_rfl)|((with_reducible apply t_condT);exact rfl)|(with_reducible apply t_ret)|(with_reducible apply t_skip)|(with_reducible apply t_block))|with_reducible apply q_thenN|with_reducible apply q_thenR|with_reducible apply q_blockR|exact P0|exact Rdn.zero|apply Rdn.succ|((with_reducible apply Norm.nil);exact rfl)|((with_reducible apply Norm.cons);exact rfl)|(with_reducible apply end_ret)|exact rvs_nil|(with_reducible apply rvs_cons)|((with_reducible apply rv_tmp);exact rfl)|((with_reducible apply al_id);first|(apply al_more [4,5,6,7,8,9,10,11,12,13,14,15,16,17,18,19,20,21,22,23,24,25,26,27,28,29,30,31,32,33,34,35,36,37,38,39,40,41,42,43,44,45,46,47] 0;decide +kernel;exact rfl;exact rfl;focus (repeat (first|exact HpSub.refl _|(apply HpSub.cons;(repeat first|exact P0|apply P1))|apply HpSub.skipX|exact HpSub.nil)))|(apply al_done;decide +kernel)|(apply al_one 2;decide +kernel)|(apply al_one 3;decide +kernel))|exact Nat.le_of_ble_eq_true rfl)
           all_goals rfl
       · repeat' (first|((with_reducible apply oq_id);first|(focus ((with_reducible apply oq_indexAddrN);(iterate 4 exact rfl);omega))|((with_reducible apply oq_subE (k:=((k-1:Nat):Int)));exact rfl;exact rfl;omega)|((with_reducible apply oq_lssT);exact rfl;exact rfl;omega)|((with_reducible apply oq_lssF);exact rfl;exact rfl;omega)|((with_reducible apply oq_geqF);exact rfl;exact rfl;omega)|((with_reducible apply oq_gtrT);exact rfl;exact rfl;omega)|((with_reducible apply oq_gtrF);exact rfl;exact rfl;omega)|((with_reducible apply oq_eqlF);exact rfl;exact rfl;omega)|(apply oq_fn;exact rfl;first|exact trivial|(and_intros<;>omega)|omega|skip)|((with_reducible apply oq_load);exact rfl;exact rfl)|((with_reducible apply oq_loadAgg);exact rfl;exact rfl)|((with_reducible apply oq_call (hc:=Try.call87));exact rfl;exact rfl;exact fun D w1 hw1=>fromOneK hq hw1 (by (repeat first|exact P0|apply P1))))|((with_reducible apply tl_id);first|(with_reducible apply tl_nil)|((with_reducible apply u_q);(iterate 4 exact rfl))|((with_reducible apply u_s0);exact rfl;exact rfl)|((with_reducible apply u_s);(iterate 3 exact rfl)))|((with_reducible apply gx_id);first|(with_reducible apply v_nil)|((with_reducible apply v_q);(iterate 3 exact rfl))|((with_reducible apply v_skip);(iterate 3 exact rfl)))|((with_reducible apply os_id);first|((with_reducible apply os_x);exact rfl)|((with_reducible apply os_storeAgg);(iterate 5 exact rfl)))|((with_reducible apply ox_id);first|((with_reducible apply ox_alloc);exact rfl;intro _)|((with_reducible apply ox_buildSlice1);(iterate 6 exact rfl);intro _))|((with_reducible apply ai_id);first|((with_reducible apply ai_q);(iterate 5 exact rfl))|((with_reducible apply ai_x);(iterate 5 exact rfl)))|((with_reducible apply rd_id);first|(apply Rd.own;(repeat first|exact P0|apply P1);first|exact q0|exact q1|exact q2|exact r0|exact r1|exact r2;done)|(apply Rd.own;(repeat first|exact P0|apply P1);exact rfl;done))|((with_reducible apply t_id);first|(apply t_mix (id:=5) [0,1] 46 #[false,false,false,false,false,false,false,false,false,false,false,false,false,false,false,false,false,false,false,false,false,false,false,false,false,false,false,false,false,false,false,false,false,false,false,false,false,false,false,false,false,false,false,false,false,false,false,false];kernel_rfl;kernel_rfl;exact rfl)|(with_reducible apply t_seq)|(apply t_region;kernel_rfl)|((with_reducible apply t_condT);exact rfl)|((with_reducible apply t_condF);exact rfl)|(with_reducible apply t_skip)|(with_reducible apply t_block))|with_reducible apply q_thenN|with_reducible apply q_blockN|exact P0|exact Rdn.zero|apply Rdn.succ|((with_reducible apply Norm.nil);exact rfl)|((with_reducible apply Norm.cons);exact rfl)|((with_reducible apply al_id);first|(apply al_more [4,5,6,7,8,9,10,11,12,13,14,15,16,17,18,19,20,21,22,23,24,25,26,27,28,29,30,31,32,33,34,35,36,37,38,39,40,41,42,43,44,45,46,47] 0;decide +kernel;exact rfl;exact rfl;focus (repeat (first|exact HpSub.refl _|(apply HpSub.cons;(repeat first|exact P0|apply P1))|apply HpSub.skipX|exact HpSub.nil)))|(apply al_done;decide +kernel)|(apply al_one 2;decide +kernel)|(apply al_one 3;decide +kernel))|exact Nat.le_of_ble_eq_true rfl)
         all_goals (refine ⟨(k+1),⟨by omega,hnext fun z hz=>by rw [hx] at hz;cases hz;exact ⟨hxo,fun p _ hp hpw=>by rw [hy] at hp;cases hp;exact absurd hpw h5⟩⟩,(by omega),?_,?_⟩<;>(try simp only [List.cons_append,List.nil_append])<;>(repeat' (first|exact FrSub.nil|(apply FrSub.cons;exact rfl)|(apply HpSub.consE;(repeat first|exact P0|apply P1);exact rfl)|exact HpSub.nil)))
   · rw [decide_eq_true (hfa.2 fun j hj=>hok j (by omega))]
     repeat' (first|((with_reducible apply oq_id);first|((with_reducible apply oq_lssF);exact rfl;exact rfl;omega)|(apply oq_fn;exact rfl;first|exact trivial|(and_intros<;>omega)|omega|skip))|((with_reducible apply tl_id);first|(with_reducible apply tl_nil)|((with_reducible apply u_q);(iterate 4 exact rfl)))|((with_reducible apply t_id);first|(with_reducible apply t_seq)|(apply t_region;kernel_rfl)|((with_reducible apply t_condF);exact rfl)|(with_reducible apply t_ret)|(with_reducible apply t_exit))|with_reducible apply q_thenN|with_reducible apply q_thenE|((with_reducible apply q_blockE);exact rfl)|(with_reducible apply end_ret)|exact rvs_nil|(with_reducible apply rvs_cons)|((with_reducible apply rv_tmp);exact rfl))
     all_goals rfl
theorem rosR_calls (A:Option Addr) (n c:Nat) (l:List Sh) (w:World) (hr:RdS w 3 A n (l.map shCells)) (hA:A=none→n=0∧c=0) (hn:n≤1000000) :
   Calls Try.prog 85 #[.slice A n c] w fun e w'=>e=.returned (.int .i64 (rosE l))∧Ext w w':=by
 have hl:=hr.len
 simp only [List.length_map] at hl
 unfold rosE
 by_cases h1:40<l.length
 · rw [if_pos h1]
   refine enterQ (c:=cx w 11) Try.func85 rfl rfl rfl rfl ?_
   repeat' (first|((with_reducible apply oq_id);first|((with_reducible apply oq_gtrT);exact rfl;exact rfl;omega)|(apply oq_fn;exact rfl;first|exact trivial|(and_intros<;>omega)|omega|skip))|((with_reducible apply tl_id);first|(with_reducible apply tl_nil)|((with_reducible apply u_q);(iterate 4 exact rfl)))|((with_reducible apply t_id);first|(with_reducible apply t_seq)|(apply t_region;kernel_rfl)|((with_reducible apply t_condT);exact rfl)|(with_reducible apply t_ret)|(with_reducible apply t_block))|with_reducible apply q_thenN|with_reducible apply q_thenR|with_reducible apply q_blockR|(with_reducible apply end_ret)|exact rvs_nil|(with_reducible apply rvs_cons)|((with_reducible apply rv_tmp);exact rfl))
   all_goals rfl
 · rw [if_neg h1]
   have HF:=fun w1 h=>fitsR_calls A n c l w1 h hA hn
   by_cases h2:Ros l
   · rw [if_pos h2]
     rw [decide_eq_true h2] at HF
     refine enterQ (c:=cx w 11) Try.func85 rfl rfl rfl rfl ?_
     repeat' (first|((with_reducible apply oq_id);first|((with_reducible apply oq_gtrF);exact rfl;exact rfl;omega)|(apply oq_fn;exact rfl;first|exact trivial|(and_intros<;>omega)|omega|skip)|((with_reducible apply oq_call (hc:=Try.call90));exact rfl;exact rfl;exact fun D w1 hw1=>HF w1 (hr.ext hw1.ext.ext)))|((with_reducible apply tl_id);first|(with_reducible apply tl_nil)|((with_reducible apply u_q);(iterate 4 exact rfl)))|((with_reducible apply t_id);first|(with_reducible apply t_seq)|(apply t_region;kernel_rfl)|((with_reducible apply t_condF);exact rfl)|(with_reducible apply t_ret)|(with_reducible apply t_skip)|(with_reducible apply t_block))|with_reducible apply q_thenN|with_reducible apply q_blockN|(with_reducible apply end_ret)|exact rvs_nil|(with_reducible apply rvs_cons)|((with_reducible apply rv_tmp);exact rfl))
     all_goals rfl
   · rw [if_neg h2]
     rw [decide_eq_false h2] at HF
     refine enterQ (c:=cx w 11) Try.func85 rfl rfl rfl rfl ?_
     repeat' (first|((with_reducible apply oq_id);first|((with_reducible apply oq_gtrF);exact rfl;exact rfl;omega)|(apply oq_fn;exact rfl;first|exact trivial|(and_intros<;>omega)|omega|skip)|((with_reducible apply oq_call (hc:=Try.call90));exact rfl;exact rfl;exact fun D w1 hw1=>HF w1 (hr.ext hw1.ext.ext)))|((with_reducible apply tl_id);first|(with_reducible apply tl_nil)|((with_reducible apply u_q);(iterate 4 exact rfl)))|((with_reducible apply t_id);first|(with_reducible apply t_seq)|(apply t_region;kernel_rfl)|((with_reducible apply t_condT);exact rfl)|((with_reducible apply t_condF);exact rfl)|(with_reducible apply t_ret)|(with_reducible apply t_block))|with_reducible apply q_thenN|with_reducible apply q_thenR|with_reducible apply q_blockR|(with_reducible apply end_ret)|exact rvs_nil|(with_reducible apply rvs_cons)|((with_reducible apply rv_tmp);exact rfl))
     all_goals rfl
end Go.Proofs.Ytcjkndjjbjoehaa
namespace Go.Proofs.Ytcjkndjjbjoehaa
theorem sum_perm {α:Type} (f:α→Int) {l m:List α} (h:l.Perm m):(l.map f).sum=(m.map f).sum:=by
 induction h with
 | nil=>rfl
 | cons x _ ih=>rw [List.map_cons,List.sum_cons,List.map_cons,List.sum_cons,ih]
 | swap x y l=>simp only [List.map_cons,List.sum_cons];omega
 | trans _ _ h1 h2=>rw [h1,h2]
theorem work_perm {l m:List Sh} (h:l.Perm m) (who fr to:Int):workV l who fr to=workV m who fr to:=sum_perm _ h
theorem work_cons (y:Sh) (l:List Sh) (who fr to:Int):workV (y::l) who fr to=minS who fr to y+workV l who fr to:=by
 unfold workV;rw [List.map_cons,List.sum_cons]
def Cas (d:Du) (l:List Sh) (y:Ti):Prop:=∃ x∈l,y.who=x.who∧y.at_=x.fr ∧
 ((y.kind=1∧x.to-x.fr > d.most)∨(y.kind=2∧∃ p∈l,p.who=x.who∧p.to≤x.fr∧x.fr-p.to<d.rest)∨(y.kind=3∧workV l x.who x.fr (x.fr+d.win) > d.sum))
theorem Cas.perm {d:Du} {l m:List Sh} (h:l.Perm m) {y:Ti} (hc:Cas d l y):Cas d m y:=by
 obtain ⟨x,hx,h1,h2,h3⟩:=hc
 refine ⟨x,h.mem_iff.1 hx,h1,h2,?_⟩
 rcases h3 with h3|⟨h3,p,hp,h4⟩|⟨h3,h4⟩
 · exact .inl h3
 · exact .inr (.inl ⟨h3,p,h.mem_iff.1 hp,h4⟩)
 · exact .inr (.inr ⟨h3,by rw [← work_perm h];exact h4⟩)
theorem rest_iff {d:Du} {S:List Sh} (hs:Srt ltS S) (hf:Fit S) {i:Nat} {x:Sh} (hx:S[i]?=some x):restB d S i x=true↔∃ p∈S,p.who=x.who∧p.to≤x.fr∧x.fr-p.to<d.rest:=by
 obtain ⟨hi,rfl⟩:=List.getElem?_eq_some_iff.1 hx
 constructor
 · intro h
   unfold restB at h
   simp only [Bool.and_eq_true,decide_eq_true_eq] at h
   obtain ⟨h0,h1⟩:=h
   have hp:S[i-1]?=some S[i-1]:=List.getElem?_eq_getElem (by omega)
   rw [hp] at h1
   simp only [Bool.and_eq_true,decide_eq_true_eq] at h1
   exact ⟨S[i-1],List.getElem_mem _,h1.1,(hf i _ hx).2 _ h0 hp h1.1,h1.2⟩
 · rintro ⟨p,hp,h1,h2,h3⟩
   obtain ⟨j,hj,rfl⟩:=List.getElem_of_mem hp
   have hpo:=(hf j _ (List.getElem?_eq_getElem hj)).1
   unfold shOk at hpo
   have hxo:=(hf i _ hx).1
   unfold shOk at hxo
   have hji:j<i:=by
     refine Decidable.by_contra fun hc=>?_
     by_cases hij:i=j
     · subst hij;omega
     · have:=ltS_no.1 (List.pairwise_iff_getElem.1 hs i j hi hj (by omega));omega
   have hq:S[i-1]?=some S[i-1]:=List.getElem?_eq_getElem (by omega)
   have hqo:=(hf (i-1) _ hq).1
   unfold shOk at hqo
   have s1:=ltS_no.1 (List.pairwise_iff_getElem.1 hs (i-1) i (by omega) hi (by omega))
   have hqw:S[i-1].who=S[i].who∧S[j].to≤S[i-1].to:=by
     by_cases hjq:j=i-1
     · subst hjq;exact ⟨h1,Int.le_refl _⟩
     · have s2:=ltS_no.1 (List.pairwise_iff_getElem.1 hs j (i-1) hj (by omega) (by omega))
       have hw:S[j].who=S[i-1].who:=by omega
       have:=hf.before hs (show j<i-1 by omega) (List.getElem?_eq_getElem hj) hq hw
       omega
   unfold restB
   rw [hq]
   simp only [Bool.and_eq_true,decide_eq_true_eq]
   omega
theorem mem_casV {d:Du} {S:List Sh} {i:Nat} {x:Sh} {y:Ti}:y∈casV d S i x↔y.who=x.who∧y.at_=x.fr∧((y.kind=1∧x.to-x.fr > d.most)∨(y.kind=2∧restB d S i x=true)∨(y.kind=3∧workV S x.who x.fr (x.fr+d.win) > d.sum)):=by
 obtain ⟨k,w,a⟩:=y
 unfold casV
 simp only [List.mem_append]
 have e:∀ (p:Prop) [Decidable p] (u:Ti),(⟨k,w,a⟩:Ti)∈(if p then [u] else [])↔(⟨k,w,a⟩:Ti)=u∧p:=fun p _ u=>by
   by_cases h:p<;>simp [h]
 rw [e,e,e]
 simp only [Ti.mk.injEq]
 constructor
 · rintro (⟨⟨rfl,rfl,rfl⟩,h⟩|⟨⟨rfl,rfl,rfl⟩,h⟩|⟨⟨rfl,rfl,rfl⟩,h⟩)
   · exact ⟨rfl,rfl,.inl ⟨rfl,h⟩⟩
   · exact ⟨rfl,rfl,.inr (.inl ⟨rfl,h⟩)⟩
   · exact ⟨rfl,rfl,.inr (.inr ⟨rfl,h⟩)⟩
 · rintro ⟨rfl,rfl,⟨rfl,h⟩|⟨rfl,h⟩|⟨rfl,h⟩⟩
   · exact .inl ⟨⟨rfl,rfl,rfl⟩,h⟩
   · exact .inr (.inl ⟨⟨rfl,rfl,rfl⟩,h⟩)
   · exact .inr (.inr ⟨⟨rfl,rfl,rfl⟩,h⟩)
theorem mem_tiTo {d:Du} {S:List Sh} {y:Ti}:∀ {k:Nat},y∈tiTo d S k↔∃ i x,i<k∧S[i]?=some x∧y∈casV d S i x
 | 0=>by
   constructor
   · intro h;cases h
   · rintro ⟨i,x,h,_⟩;omega
 | k+1=>by
   show y∈tiTo d S k++casAt d S k↔_
   rw [List.mem_append,mem_tiTo]
   unfold casAt
   constructor
   · rintro (⟨i,x,h1,h2,h3⟩|h)
     · exact ⟨i,x,by omega,h2,h3⟩
     · cases hx:S[k]? with
       | none=>rw [hx] at h;cases h
       | some x=>rw [hx] at h;exact ⟨k,x,by omega,hx,h⟩
   · rintro ⟨i,x,h1,h2,h3⟩
     by_cases hik:i=k
     · subst hik;right;rw [h2];exact h3
     · exact .inl ⟨i,x,by omega,h2,h3⟩
theorem mem_tiV {d:Du} {l:List Sh} (h:Ros l) {y:Ti}:y∈tiV d l↔Cas d l y:=by
 have hs:=srt_srt woS l
 have hp:=srt_perm (lt:=ltS) l
 have hf:=(fitS_iff l).2 h
 unfold tiV
 rw [mem_tiTo]
 constructor
 · rintro ⟨i,x,h1,h2,h3⟩
   obtain ⟨e1,e2,e3⟩:=mem_casV.1 h3
   refine Cas.perm hp ⟨x,List.mem_of_getElem? h2,e1,e2,?_⟩
   rcases e3 with e3|⟨e3,e4⟩|e3
   · exact .inl e3
   · exact .inr (.inl ⟨e3,(rest_iff hs hf h2).1 e4⟩)
   · exact .inr (.inr e3)
 · intro hc
   obtain ⟨x,hx,e1,e2,e3⟩:=hc.perm hp.symm
   obtain ⟨i,hi,rfl⟩:=List.getElem_of_mem hx
   have hix:(srtS l)[i]?=some (srtS l)[i]:=List.getElem?_eq_getElem hi
   refine ⟨i,_,by have:=srt_len (lt:=ltS) l;omega,hix,mem_casV.2 ⟨e1,e2,?_⟩⟩
   rcases e3 with e3|⟨e3,e4⟩|e3
   · exact .inl e3
   · exact .inr (.inl ⟨e3,(rest_iff hs hf hix).2 e4⟩)
   · exact .inr (.inr e3)
/-! The order of shifts does not matter -/
/-! Windows -/
end Go.Proofs.Ytcjkndjjbjoehaa
namespace Go.Proofs.Ytcjkndjjbjoehaa
open Go.RowKit
attribute [local irreducible] TR OQ OS OX Rd T TL GX GL AL AI RV wpG SAny Calls
theorem Has.capge {w0:World} {M:Ms} {H H':Hp} {w:World} {b e s cap:Nat} {C:List Value} (h:Has w0 M H w) (p:Pick H b C (some (e,s,cap)) H'):C.length≤cap*s:=by
 rcases (h.blk _ p.mem).2 with ⟨c,t,h1,h2,h3⟩|⟨e,_⟩
 rotate_left
 · have e':C=[]:=e
   subst e'
   exact Nat.zero_le _
 simp only [TgOk] at h3
 rw [← h3.2.1]
 by_cases hl:C.length=0
 · omega
 · have hx:C[C.length-1]?=some C[C.length-1]:=List.getElem?_eq_getElem (by omega)
   have:=(Array.getElem?_eq_some_iff.1 (h2 _ _ hx)).1
   omega
end Go.Proofs.Ytcjkndjjbjoehaa
namespace Go.Proofs.Ytcjkndjjbjoehaa
open Go.RowKit
attribute [local irreducible] OQ OS OX Rd T TL GX GL AL AI RV wpG SAny Calls
theorem hp_left {G R:Hp}:HpSub (G++R) G:=by
 induction G with
 | nil=>exact HpSub.nil
 | cons x G ih=>obtain ⟨b,C,g⟩:=x;exact HpSub.cons P0 ih
def tiB (l:List Ti):List Value:=(l.map tiCells).flatten
theorem tiB_len (l:List Ti):(tiB l).length=l.length*3:=flat_len (s:=3) (fun _=>rfl) l
theorem tiB_app (l m:List Ti):tiB (l++m)=tiB l++tiB m:=by unfold tiB;rw [List.map_append,List.flatten_append]
def TiO (T:List Ti) (v:Value) (H:Hp):Prop:=∃ x,(x=none→T.length=0)∧v=.slice (clA x) T.length (clC x)∧H=clH 222 3 (tiB T) x
def ArrP (S:List Sh) (v:Value) (H:Hp):Prop:=∃ x,(x=none→S.length=0)∧S.length≤clC x∧v=.slice (clA x) S.length (clC x)∧H=clH 91 3 (shB S) x
theorem arrangedP_T (A:Option Addr) (n c:Nat) (l:List Sh) (w:World) (hr:RdS w 3 A n (l.map shCells)) (hA:A=none→n=0∧c=0) (hn:n≤1000000) :
   Calls Try.prog 135 #[.slice A n c,.func (.func 136) #[] #[]] w fun e w'=>∃ v H',e=.returned v∧ArrP (srtS l) v H'∧Has w ⟨[],[]⟩ H' w':=
 (arranged_T A n c l w hr hA hn).mono fun e w' ⟨v,H',h1,⟨x,h2,h3,h4⟩,h5⟩=>⟨v,H',h1,⟨x,h2,by
   rcases x with _|⟨g,cp⟩
   · rw [h2 rfl];exact Nat.zero_le _
   · subst h4
     have:=h5.capge P0
     rw [sh_flat_len] at this
     simp only [clC]
     omega,h3,h4⟩,h5⟩
def wkJ (S:List Sh) (i:Nat) (x:Sh) (win:Int) (j:Nat):Int:=(((S.drop i).take j).map (minT x win)).sum
theorem wkJ_succ {S:List Sh} {i j:Nat} {x y:Sh} {win:Int} (h:S[i+j]?=some y):wkJ S i x win (j+1)=wkJ S i x win j+minT x win y:=by
 unfold wkJ
 rw [List.take_add_one,List.getElem?_drop,h]
 simp
theorem wkJ_all {S:List Sh} {i:Nat} {x:Sh} {win:Int} {j:Nat} (h:S.length≤i+j):wkJ S i x win j=workT S i x win:=by
 unfold wkJ workT
 rw [List.take_of_length_le (by simp;omega)]
theorem wkJ_in {S:List Sh} (hS:∀ y∈S,shOk y) {i:Nat} {x:Sh} {win:Int}:∀ {j:Nat},i+j≤S.length→0≤wkJ S i x win j∧wkJ S i x win j≤(j:Int)*1000000
 | 0,_=>by simp [wkJ]
 | j+1,h=>by
   obtain ⟨y,hy⟩:∃ y,S[i+j]?=some y:=⟨_,List.getElem?_eq_getElem (by omega)⟩
   have ih:=wkJ_in hS (i:=i) (x:=x) (win:=win) (show i+j≤S.length by omega)
   have ho:=hS y (List.mem_of_getElem? hy)
   unfold shOk at ho
   rw [wkJ_succ hy]
   have:0≤minT x win y∧minT x win y≤1000000:=by unfold minT;split<;>omega
   rw [show ((j+1:Nat):Int)*1000000=(j:Int)*1000000+1000000 by omega]
   omega
def casK (a b c:Bool) (x:Sh):Nat→List Ti
 | 0=>[]
 | 1=>(if a then [⟨1,x.who,x.fr⟩] else [])
 | 2=>(if a then [⟨1,x.who,x.fr⟩] else [])++(if b then [⟨2,x.who,x.fr⟩] else [])
 | _=>(if a then [⟨1,x.who,x.fr⟩] else [])++((if b then [⟨2,x.who,x.fr⟩] else [])++(if c then [⟨3,x.who,x.fr⟩] else []))
theorem casK_all {d:Du} {S:List Sh} {i:Nat} {x:Sh} {a b c:Bool} (ha:a=decide (x.to-x.fr > d.most)) (hb:b=restB d S i x) (hc:c=decide (workV S x.who x.fr (x.fr+d.win) > d.sum)):casK a b c x 3=casV d S i x:=by
 subst ha hb hc
 unfold casK casV
 simp only [decide_eq_true_eq]
theorem casK_len (a b c:Bool) (x:Sh) (k:Nat):(casK a b c x k).length≤3:=by
 rcases k with _|_|_|k<;>cases a<;>cases b<;>cases c<;>simp [casK]
theorem tiTo_len (d:Du) (S:List Sh):∀ k,(tiTo d S k).length≤3*k
 | 0=>Nat.le_refl _
 | k+1=>by
   show (tiTo d S k++casAt d S k).length≤_
   rw [List.length_append]
   have:=tiTo_len d S k
   have:(casAt d S k).length≤3:=by
     unfold casAt
     split
     · rename_i x _
       rw [← casK_all (d:=d) (S:=S) (i:=k) (x:=x) rfl rfl rfl]
       exact casK_len _ _ _ _ _
     · exact Nat.zero_le _
   omega
theorem tiredR_T (d:Du) (hd:duB d) (A:Option Addr) (n c:Nat) (l:List Sh) (w:World) (hr:RdS w 3 A n (l.map shCells)) (hA:A=none→n=0∧c=0) (hn:n≤1000) (hRos:Ros l) :
   Calls Try.prog 91 #[.agg #[.int .i64 d.most,.int .i64 d.rest,.int .i64 d.win,.int .i64 d.sum],.slice A n c] w fun e w'=>∃ v H',e=.returned v∧TiO (tiV d l) v H'∧Has w ⟨[],[]⟩ H' w':=by
 have hl:=hr.len
 simp only [List.length_map] at hl
 obtain ⟨S,hS⟩:∃ S,srtS l=S:=⟨_,rfl⟩
 have hsl:S.length=n:=by rw [← hS,srtS,srt_len,hl]
 have hfit:Fit S:=by rw [← hS];exact (fitS_iff l).2 hRos
 have hsrt:Srt ltS S:=by rw [← hS];exact srt_srt woS l
 have hall:∀ y∈S,shOk y:=fun y hy=>hRos.1 y ((srt_perm l).mem_iff.1 (by rw [← hS] at hy;exact hy))
 have hti:tiV d l=tiTo d S n:=by unfold tiV;rw [hS,hl]
 obtain ⟨⟨dm1,dm2⟩,⟨dr1,dr2⟩,⟨dw1,dw2⟩,ds1,ds2⟩:=hd
 refine enterF (c:=cx w 114) Try.func91 rfl rfl rfl rfl ?_
 refine t_cut (ι:=Nat) (fun b2=>[(1,.slice A n c),(2,.pointer (some ⟨b2,0,none⟩))]) (fun b2=>[(b2,[.int .i64 d.most,.int .i64 d.rest,.int .i64 d.win,.int .i64 d.sum],some (80,4,1))]) (fun _=>True) ?_ ?_
 · repeat' (first|((with_reducible apply oq_id);first|(apply oq_fn;exact rfl;first|exact trivial|(and_intros<;>omega)|omega|skip))|((with_reducible apply tl_id);first|(with_reducible apply tl_nil)|((with_reducible apply u_q);(iterate 4 exact rfl))|((with_reducible apply u_s);(iterate 3 exact rfl)))|((with_reducible apply os_id);first|((with_reducible apply os_x);exact rfl))|((with_reducible apply ox_id);first|((with_reducible apply ox_boxAgg);exact rfl;intro _))|((with_reducible apply t_id);first|(apply t_region;kernel_rfl)))
   all_goals exact ⟨rfl,_,trivial,by (repeat first|exact FrSub.nil|(apply FrSub.cons;exact rfl)),by (repeat (first|exact HpSub.refl _|(apply HpSub.consE;(repeat (first|exact P0|apply P1|apply PA));exact rfl)|exact HpSub.nil))⟩
 rintro b2 -
 refine t_cut (ι:=Unit) (fun _=>[(1,.slice A n c),(2,.pointer (some ⟨b2,0,none⟩)),(5,.slice none 0 0)]) (fun _=>[(b2,[.int .i64 d.most,.int .i64 d.rest,.int .i64 d.win,.int .i64 d.sum],some (80,4,1))]) (fun _=>True) ?_ ?_
 · repeat' (first|((with_reducible apply oq_id);first|(apply oq_fn;exact rfl;first|exact trivial|(and_intros<;>omega)|omega|skip))|((with_reducible apply tl_id);first|(with_reducible apply tl_nil)|((with_reducible apply u_q);(iterate 4 exact rfl)))|((with_reducible apply t_id);first|(apply t_region;kernel_rfl)))
   all_goals exact ⟨rfl,(),trivial,by (repeat first|exact FrSub.nil|(apply FrSub.cons;exact rfl)),by (repeat (first|exact HpSub.refl _|(apply HpSub.consE;(repeat (first|exact P0|apply P1|apply PA));exact rfl)|exact HpSub.nil))⟩
 rintro ⟨⟩ -
 refine t_cut (ι:=Option (Nat×Nat)) (fun x=>[(1,.slice (clA x) n (clC x)),(2,.pointer (some ⟨b2,0,none⟩)),(5,.slice none 0 0)]) (fun x=>clH 91 3 (shB S) x++[(b2,[.int .i64 d.most,.int .i64 d.rest,.int .i64 d.win,.int .i64 d.sum],some (80,4,1))]) (fun x=>(x=none→n=0)∧n≤clC x) ?_ ?_
 · repeat' (first|((with_reducible apply oq_id);first|(apply oq_fn;exact rfl;first|exact trivial|(and_intros<;>omega)|omega|skip))|((with_reducible apply tl_id);first|(with_reducible apply tl_nil)|((with_reducible apply u_s);(iterate 3 exact rfl);(with_reducible apply os_callF (PV:=ArrP S) (hc:=Try.call135));exact rfl;exact rfl;exact fun D w1 hw1=>(by rw [← hS];exact arrangedP_T A n c l w1 (hr.ext hw1.ext.ext) hA (by omega));rintro v H' ⟨x,hx,hcx,rfl,rfl⟩;(try simp only [List.append_nil]))|((with_reducible apply u_q);(iterate 4 exact rfl)))|((with_reducible apply t_id);first|(apply t_region;kernel_rfl)))
   all_goals (rw [hsl] at hx hcx)
   all_goals exact ⟨by trivial,x,⟨hx,hcx⟩,by (rw [hsl];(repeat first|exact FrSub.nil|(apply FrSub.cons;exact rfl))),by (repeat (first|exact HpSub.refl _|(apply HpSub.consE;(repeat (first|exact P0|apply P1|apply PA));exact rfl)|apply HpSub.appC|apply HpSub.skipX|apply HpSub.skip|apply HpSub.skipApp|exact HpSub.nil))⟩
 rintro x ⟨hx,hcx⟩
 rcases x with _|⟨g,cp⟩
 · obtain rfl:=hx rfl
   simp only [clA,clC,clH,List.nil_append]
   rw [hti]
   repeat' (first|((with_reducible apply oq_id);first|(apply oq_fn;exact rfl;first|exact trivial|(and_intros<;>omega)|omega|skip))|((with_reducible apply tl_id);first|(with_reducible apply tl_nil)|((with_reducible apply u_q);(iterate 4 exact rfl)))|((with_reducible apply t_id);first|(with_reducible apply t_seq)|(apply t_region;kernel_rfl)|(with_reducible apply t_block))|with_reducible apply q_thenN)
   apply t_loopK (ι:=Unit) [1,2,16,17] (fun _=>[(18,.int .i64 0),(5,.slice none 0 0)]) (fun _=>[]) (fun _=>True) (fun _=>0) (())
   (repeat (first|exact KeepF.nil|(apply KeepF.cons;exact rfl)|apply KeepF.skip))
   (repeat first|exact FrSub.nil|(apply FrSub.cons;exact rfl))
   (repeat (first|exact HpSub.refl _|(apply HpSub.consE;(repeat (first|exact P0|apply P1|apply PA));exact rfl)|exact HpSub.nil))
   · trivial
   rintro ⟨⟩ -
   repeat' (first|((with_reducible apply oq_id);first|((with_reducible apply oq_lssF);exact rfl;exact rfl;omega)|(apply oq_fn;exact rfl;first|exact trivial|(and_intros<;>omega)|omega|skip))|((with_reducible apply tl_id);first|(with_reducible apply tl_nil)|((with_reducible apply u_q);(iterate 4 exact rfl)))|((with_reducible apply t_id);first|(with_reducible apply t_seq)|(apply t_region;kernel_rfl)|((with_reducible apply t_condF);exact rfl)|(with_reducible apply t_ret)|(with_reducible apply t_exit))|with_reducible apply q_thenN|with_reducible apply q_thenE|((with_reducible apply q_blockE);exact rfl)|(with_reducible apply end_ret)|exact rvs_nil|(with_reducible apply rvs_cons)|((with_reducible apply rv_tmp);exact rfl))
   all_goals exact ⟨_,⟨none,fun _=>rfl,rfl,rfl⟩,HpSub.nil⟩
 simp only [clA,clC,clH,List.cons_append,List.nil_append] at hcx ⊢
 repeat' (first|((with_reducible apply oq_id);first|(apply oq_fn;exact rfl;first|exact trivial|(and_intros<;>omega)|omega|skip))|((with_reducible apply tl_id);first|(with_reducible apply tl_nil)|((with_reducible apply u_q);(iterate 4 exact rfl)))|((with_reducible apply t_id);first|(with_reducible apply t_seq)|(apply t_region;kernel_rfl)|(with_reducible apply t_block))|with_reducible apply q_thenN)
 apply t_loopK (GH:=[]) (ι:=Nat×Option (Nat×Nat)) [1,2,16,17] (fun z=>[(18,.int .i64 (z.1:Nat)),(5,.slice (clA z.2) (tiTo d S z.1).length (clC z.2))]) (fun z=>clH 222 3 (tiB (tiTo d S z.1)) z.2++[(g,shB S,some (91,3,cp)),(b2,[.int .i64 d.most,.int .i64 d.rest,.int .i64 d.win,.int .i64 d.sum],some (80,4,1))]) (fun z=>z.1≤n∧(z.2=none→(tiTo d S z.1).length=0)) (fun z=>n-z.1) ((0,none))
 (repeat (first|exact KeepF.nil|(apply KeepF.cons;exact rfl)|apply KeepF.skip))
 (repeat (first|exact FrSub.nil|(apply FrSub.cons;exact rfl)|(apply FrSub.consE;exact rfl;(congr 1))))
 ((try simp only [List.append_nil]);(repeat (first|exact HpSub.refl _|(apply HpSub.consE;(repeat (first|exact P0|apply P1|apply PA));exact rfl)|apply HpSub.appC|apply HpSub.skipX|apply HpSub.skip|apply HpSub.skipApp|exact HpSub.nil)))
 · exact ⟨Nat.zero_le _,fun _=>rfl⟩
 rintro ⟨i,o⟩ ⟨hi,ho⟩
 simp only at hi ho
 simp only [List.append_nil]
 have htl:=tiTo_len d S i
 by_cases hlt:i<n
 · obtain ⟨x,hx⟩:∃ x,S[i]?=some x:=⟨_,List.getElem?_eq_getElem (by omega)⟩
   have hxo:=hall x (List.mem_of_getElem? hx)
   have hxo':=hxo
   unfold shOk at hxo'
   obtain ⟨q0,q1,q2⟩:=sh_at hx
   refine t_cut (ι:=Unit) (fun _=>[(1,.slice (some ⟨g,0,none⟩) n cp),(2,.pointer (some ⟨b2,0,none⟩)),(16,.slice (some ⟨g,0,none⟩) n cp),(17,.int .i64 (n:Nat)),(18,.int .i64 (i:Nat)),(5,.slice (clA o) (tiTo d S i).length (clC o)),(19,.bool true)]) (fun _=>clH 222 3 (tiB (tiTo d S i)) o++[(g,shB S,some (91,3,cp)),(b2,[.int .i64 d.most,.int .i64 d.rest,.int .i64 d.win,.int .i64 d.sum],some (80,4,1))]) (fun _=>True) ?_ ?_
   · repeat' (first|((with_reducible apply oq_id);first|((with_reducible apply oq_lssT);exact rfl;exact rfl;omega))|((with_reducible apply tl_id);first|(with_reducible apply tl_nil)|((with_reducible apply u_q);(iterate 4 exact rfl)))|((with_reducible apply t_id);first|(apply t_region;kernel_rfl)))
     all_goals exact ⟨rfl,(),trivial,by (repeat first|exact FrSub.nil|(apply FrSub.cons;exact rfl)),by (repeat (first|exact HpSub.refl _|(apply HpSub.consE;(repeat (first|exact P0|apply P1|apply PA));exact rfl)|apply HpSub.skipX|apply HpSub.skip|exact HpSub.nil))⟩
   rintro ⟨⟩ -
   refine t_cut (ι:=Unit) (fun _=>[(1,.slice (some ⟨g,0,none⟩) n cp),(2,.pointer (some ⟨b2,0,none⟩)),(16,.slice (some ⟨g,0,none⟩) n cp),(17,.int .i64 (n:Nat)),(18,.int .i64 (i:Nat)),(5,.slice (clA o) (tiTo d S i).length (clC o))]) (fun _=>clH 222 3 (tiB (tiTo d S i)) o++[(g,shB S,some (91,3,cp)),(b2,[.int .i64 d.most,.int .i64 d.rest,.int .i64 d.win,.int .i64 d.sum],some (80,4,1))]) (fun _=>True) ?_ ?_
   · repeat' (first|((with_reducible apply t_id);first|((with_reducible apply t_condT);exact rfl)|(with_reducible apply t_skip)))
     all_goals exact ⟨rfl,(),trivial,by (repeat first|exact FrSub.nil|(apply FrSub.cons;exact rfl)),by (repeat (first|exact HpSub.refl _|(apply HpSub.consE;(repeat (first|exact P0|apply P1|apply PA));exact rfl)|apply HpSub.skipX|apply HpSub.skip|exact HpSub.nil))⟩
   rintro ⟨⟩ -
   refine t_cut (ι:=Option (Nat×Nat)) (fun o=>[(1,.slice (some ⟨g,0,none⟩) n cp),(2,.pointer (some ⟨b2,0,none⟩)),(16,.slice (some ⟨g,0,none⟩) n cp),(17,.int .i64 (n:Nat)),(18,.int .i64 (i:Nat)),(5,.slice (clA o) (tiTo d S (i+1)).length (clC o))]) (fun o=>clH 222 3 (tiB (tiTo d S (i+1))) o++[(g,shB S,some (91,3,cp)),(b2,[.int .i64 d.most,.int .i64 d.rest,.int .i64 d.win,.int .i64 d.sum],some (80,4,1))]) (fun o=>o=none→(tiTo d S (i+1)).length=0) ?_ ?_
   · refine t_block ?_
     refine t_cut (ι:=Nat) (fun b7=>[(1,.slice (some ⟨g,0,none⟩) n cp),(2,.pointer (some ⟨b2,0,none⟩)),(16,.slice (some ⟨g,0,none⟩) n cp),(17,.int .i64 (n:Nat)),(18,.int .i64 (i:Nat)),(5,.slice (clA o) (tiTo d S i).length (clC o)),(6,.int .i64 (i:Nat)),(7,.pointer (some ⟨b7,0,none⟩))]) (fun b7=>(b7,[.int .i64 x.who,.int .i64 x.fr,.int .i64 x.to],some (91,3,1))::(clH 222 3 (tiB (tiTo d S i)) o++[(g,shB S,some (91,3,cp)),(b2,[.int .i64 d.most,.int .i64 d.rest,.int .i64 d.win,.int .i64 d.sum],some (80,4,1))])) (fun _=>True) ?_ ?_
     · repeat' (first|((with_reducible apply oq_id);first|(focus ((with_reducible apply oq_indexAddrN);(iterate 4 exact rfl);omega))|(apply oq_fn;exact rfl;first|exact trivial|(and_intros<;>omega)|omega|skip)|((with_reducible apply oq_loadAgg);exact rfl;exact rfl))|((with_reducible apply tl_id);first|(with_reducible apply tl_nil)|((with_reducible apply u_q);(iterate 4 exact rfl))|((with_reducible apply u_s0);exact rfl;exact rfl)|((with_reducible apply u_s);(iterate 3 exact rfl)))|((with_reducible apply os_id);first|((with_reducible apply os_x);exact rfl)|((with_reducible apply os_storeAgg);(iterate 5 exact rfl)))|((with_reducible apply ox_id);first|((with_reducible apply ox_alloc);exact rfl;intro _))|((with_reducible apply rd_id);first|(apply Rd.own;(repeat (first|exact P0|apply P1|apply PA));first|exact q0|exact q1|exact q2|exact r0|exact r1|exact r2;done))|((with_reducible apply t_id);first|(apply t_region;kernel_rfl))|exact P0|exact Rdn.zero|apply Rdn.succ|((with_reducible apply Norm.nil);exact rfl)|((with_reducible apply Norm.cons);exact rfl)|exact Nat.le_of_ble_eq_true rfl)
       all_goals exact ⟨rfl,_,trivial,by (repeat first|exact FrSub.nil|(apply FrSub.cons;exact rfl)),by (repeat (first|exact HpSub.refl _|(apply HpSub.consE;(repeat (first|exact P0|apply P1|apply PA));exact rfl)|apply HpSub.appC|apply HpSub.skipX|apply HpSub.skip|apply HpSub.skipApp|exact HpSub.nil))⟩
     rintro b7 -
     refine t_cut (ι:=Unit) (fun _=>[(1,.slice (some ⟨g,0,none⟩) n cp),(2,.pointer (some ⟨b2,0,none⟩)),(16,.slice (some ⟨g,0,none⟩) n cp),(17,.int .i64 (n:Nat)),(18,.int .i64 (i:Nat)),(5,.slice (clA o) (tiTo d S i).length (clC o)),(6,.int .i64 (i:Nat)),(7,.pointer (some ⟨b7,0,none⟩)),(8,.int .i64 0)]) (fun _=>(b7,[.int .i64 x.who,.int .i64 x.fr,.int .i64 x.to],some (91,3,1))::(clH 222 3 (tiB (tiTo d S i)) o++[(g,shB S,some (91,3,cp)),(b2,[.int .i64 d.most,.int .i64 d.rest,.int .i64 d.win,.int .i64 d.sum],some (80,4,1))])) (fun _=>True) ?_ ?_
     · repeat' (first|((with_reducible apply oq_id);first|(apply oq_fn;exact rfl;first|exact trivial|(and_intros<;>omega)|omega|skip))|((with_reducible apply tl_id);first|(with_reducible apply tl_nil)|((with_reducible apply u_q);(iterate 4 exact rfl)))|((with_reducible apply t_id);first|(apply t_region;kernel_rfl)))
       all_goals exact ⟨rfl,(),trivial,by (repeat first|exact FrSub.nil|(apply FrSub.cons;exact rfl)),by (repeat (first|exact HpSub.refl _|(apply HpSub.consE;(repeat (first|exact P0|apply P1|apply PA));exact rfl)|apply HpSub.skipX|apply HpSub.skip|exact HpSub.nil))⟩
     rintro ⟨⟩ -
     refine t_cut (ι:=Unit) (fun _=>[(1,.slice (some ⟨g,0,none⟩) n cp),(2,.pointer (some ⟨b2,0,none⟩)),(16,.slice (some ⟨g,0,none⟩) n cp),(17,.int .i64 (n:Nat)),(18,.int .i64 (i:Nat)),(5,.slice (clA o) (tiTo d S i).length (clC o)),(6,.int .i64 (i:Nat)),(7,.pointer (some ⟨b7,0,none⟩)),(8,.int .i64 (workT S i x d.win))]) (fun _=>(b7,[.int .i64 x.who,.int .i64 x.fr,.int .i64 x.to],some (91,3,1))::(clH 222 3 (tiB (tiTo d S i)) o++[(g,shB S,some (91,3,cp)),(b2,[.int .i64 d.most,.int .i64 d.rest,.int .i64 d.win,.int .i64 d.sum],some (80,4,1))])) (fun _=>True) ?_ ?_
     · repeat' (first|((with_reducible apply oq_id);first|(focus ((with_reducible apply oq_sliceL (l:=i));(iterate 4 exact rfl);omega;omega;omega))|(apply oq_fn;exact rfl;first|exact trivial|(and_intros<;>omega)|omega|skip))|((with_reducible apply tl_id);first|(with_reducible apply tl_nil)|((with_reducible apply u_q);(iterate 4 exact rfl)))|((with_reducible apply t_id);first|(with_reducible apply t_seq)|(apply t_region;kernel_rfl)|(with_reducible apply t_block))|with_reducible apply q_thenN)
       apply t_loopK (GH:=[]) (ι:=Nat) [1,2,5,6,7,16,17,18,25,26] (fun j=>[(27,.int .i64 (j:Nat)),(8,.int .i64 (wkJ S i x d.win j))]) (fun _=>(b7,[.int .i64 x.who,.int .i64 x.fr,.int .i64 x.to],some (91,3,1))::(clH 222 3 (tiB (tiTo d S i)) o++[(g,shB S,some (91,3,cp)),(b2,[.int .i64 d.most,.int .i64 d.rest,.int .i64 d.win,.int .i64 d.sum],some (80,4,1))])) (fun j=>j≤n-i) (fun j=>n-i-j) (0)
       (repeat (first|exact KeepF.nil|(apply KeepF.cons;exact rfl)|apply KeepF.skip))
       (repeat first|exact FrSub.nil|(apply FrSub.cons;exact rfl))
       ((try simp only [List.append_nil]);(repeat (first|exact HpSub.refl _|(apply HpSub.consE;(repeat (first|exact P0|apply P1|apply PA));exact rfl)|apply HpSub.appC|apply HpSub.skipX|apply HpSub.skip|apply HpSub.skipApp|exact HpSub.nil)))
       · exact Nat.zero_le _
       rintro j hj
       try simp only [List.cons_append,List.nil_append]
       simp only [List.append_nil]
       have hwin:=wkJ_in hall (i:=i) (x:=x) (win:=d.win) (j:=j) (by omega)
       by_cases hjl:j<n-i
       · obtain ⟨y,hy⟩:∃ y,S[i+j]?=some y:=⟨_,List.getElem?_eq_getElem (by omega)⟩
         have hyo:=hall y (List.mem_of_getElem? hy)
         unfold shOk at hyo
         have hsu:=wkJ_succ (x:=x) (win:=d.win) hy
         obtain ⟨r0,r1,r2⟩:=sh_at hy
         rw [show 0+(i+j)*3=0+i*3+j*3 by omega] at r0 r1 r2
         unfold minT at hsu
         by_cases hyw:y.who=x.who
         · rw [if_pos hyw] at hsu
           repeat' (first|((with_reducible apply oq_id);first|(focus ((with_reducible apply oq_indexAddrN);(iterate 4 exact rfl);omega))|((with_reducible apply oq_addE (k:=wkJ S i x d.win (j+1)));exact rfl;exact rfl;omega)|((with_reducible apply oq_lssT);exact rfl;exact rfl;omega)|((with_reducible apply oq_eqlT);exact rfl;exact rfl;omega)|(apply oq_fn;exact rfl;first|exact trivial|(and_intros<;>omega)|omega|skip)|((with_reducible apply oq_load);exact rfl;exact rfl)|((with_reducible apply oq_loadAgg);exact rfl;exact rfl))|((with_reducible apply tl_id);first|(with_reducible apply tl_nil)|((with_reducible apply u_q);(iterate 4 exact rfl))|((with_reducible apply u_s0);exact rfl;exact rfl)|((with_reducible apply u_s);(iterate 3 exact rfl)))|((with_reducible apply os_id);first|((with_reducible apply os_x);exact rfl)|((with_reducible apply os_storeAgg);(iterate 5 exact rfl)))|((with_reducible apply ox_id);first|((with_reducible apply ox_alloc);exact rfl;intro _))|((with_reducible apply rd_id);first|(apply Rd.own;(repeat (first|exact P0|apply P1|apply PA));first|exact q0|exact q1|exact q2|exact r0|exact r1|exact r2;done)|(apply Rd.own;(repeat (first|exact P0|apply P1|apply PA));exact rfl;done))|((with_reducible apply t_id);first|(with_reducible apply t_seq)|(apply t_region;kernel_rfl)|((with_reducible apply t_condT);exact rfl)|(with_reducible apply t_skip)|(with_reducible apply t_block))|with_reducible apply q_thenN|with_reducible apply q_blockN|exact P0|exact Rdn.zero|apply Rdn.succ|((with_reducible apply Norm.nil);exact rfl)|((with_reducible apply Norm.cons);exact rfl)|exact Nat.le_of_ble_eq_true rfl)
           all_goals (refine ⟨j+1,(by omega),(by omega),?_,?_⟩)
           all_goals first
             | ((try simp only [List.cons_append,List.nil_append]);(repeat first|exact FrSub.nil|(apply FrSub.cons;exact rfl));done)
             | ((try simp only [List.cons_append,List.nil_append]);(repeat (first|exact HpSub.refl _|(apply HpSub.consE;(repeat (first|exact P0|apply P1|apply PA));exact rfl)|apply HpSub.appC|apply HpSub.skipX|apply HpSub.skip|apply HpSub.skipApp|exact HpSub.nil));done)
         · rw [if_neg hyw,Int.add_zero] at hsu
           rw [← hsu]
           repeat' (first|((with_reducible apply oq_id);first|(focus ((with_reducible apply oq_indexAddrN);(iterate 4 exact rfl);omega))|((with_reducible apply oq_lssT);exact rfl;exact rfl;omega)|((with_reducible apply oq_eqlF);exact rfl;exact rfl;omega)|(apply oq_fn;exact rfl;first|exact trivial|(and_intros<;>omega)|omega|skip)|((with_reducible apply oq_load);exact rfl;exact rfl)|((with_reducible apply oq_loadAgg);exact rfl;exact rfl))|((with_reducible apply tl_id);first|(with_reducible apply tl_nil)|((with_reducible apply u_q);(iterate 4 exact rfl))|((with_reducible apply u_s0);exact rfl;exact rfl)|((with_reducible apply u_s);(iterate 3 exact rfl)))|((with_reducible apply os_id);first|((with_reducible apply os_x);exact rfl)|((with_reducible apply os_storeAgg);(iterate 5 exact rfl)))|((with_reducible apply ox_id);first|((with_reducible apply ox_alloc);exact rfl;intro _))|((with_reducible apply rd_id);first|(apply Rd.own;(repeat (first|exact P0|apply P1|apply PA));first|exact q0|exact q1|exact q2|exact r0|exact r1|exact r2;done)|(apply Rd.own;(repeat (first|exact P0|apply P1|apply PA));exact rfl;done))|((with_reducible apply t_id);first|(with_reducible apply t_seq)|(apply t_region;kernel_rfl)|((with_reducible apply t_condT);exact rfl)|((with_reducible apply t_condF);exact rfl)|(with_reducible apply t_skip)|(with_reducible apply t_block))|with_reducible apply q_thenN|with_reducible apply q_blockN|exact P0|exact Rdn.zero|apply Rdn.succ|((with_reducible apply Norm.nil);exact rfl)|((with_reducible apply Norm.cons);exact rfl)|exact Nat.le_of_ble_eq_true rfl)
           all_goals (refine ⟨j+1,(by omega),(by omega),?_,?_⟩)
           all_goals first
             | ((try simp only [List.cons_append,List.nil_append]);(repeat first|exact FrSub.nil|(apply FrSub.cons;exact rfl));done)
             | ((try simp only [List.cons_append,List.nil_append]);(repeat (first|exact HpSub.refl _|(apply HpSub.consE;(repeat (first|exact P0|apply P1|apply PA));exact rfl)|apply HpSub.appC|apply HpSub.skipX|apply HpSub.skip|apply HpSub.skipApp|exact HpSub.nil));done)
       · have hwa:=wkJ_all (S:=S) (i:=i) (x:=x) (win:=d.win) (j:=j) (by omega)
         rw [hwa]
         repeat' (first|((with_reducible apply oq_id);first|((with_reducible apply oq_lssF);exact rfl;exact rfl;omega))|((with_reducible apply tl_id);first|(with_reducible apply tl_nil)|((with_reducible apply u_q);(iterate 4 exact rfl)))|((with_reducible apply t_id);first|(with_reducible apply t_seq)|(apply t_region;kernel_rfl)|((with_reducible apply t_condF);exact rfl)|(with_reducible apply t_exit))|with_reducible apply q_thenN|with_reducible apply q_thenE|((with_reducible apply q_blockE);exact rfl))
         all_goals exact ⟨rfl,(),trivial,by (repeat first|exact FrSub.nil|(apply FrSub.cons;exact rfl)),by (repeat (first|exact HpSub.refl _|(apply HpSub.consE;(repeat (first|exact P0|apply P1|apply PA));exact rfl)|apply HpSub.appC|apply HpSub.skipX|apply HpSub.skip|apply HpSub.skipApp|exact HpSub.nil))⟩
     rintro ⟨⟩ -
     have hwk:=work_eq hsrt hfit hx (w:=d.win) (by omega)
     have hwb:0≤workT S i x d.win∧workT S i x d.win≤1000000000:=by
       have h1:=wkJ_all (S:=S) (i:=i) (x:=x) (win:=d.win) (j:=n-i) (by omega)
       have h2:=wkJ_in hall (i:=i) (x:=x) (win:=d.win) (j:=n-i) (by omega)
       rw [h1] at h2
       omega
     obtain ⟨bB,hbB⟩:∃ b,restB d S i x=b:=⟨_,rfl⟩
     refine t_cut (ι:=Unit) (fun _=>[(1,.slice (some ⟨g,0,none⟩) n cp),(2,.pointer (some ⟨b2,0,none⟩)),(16,.slice (some ⟨g,0,none⟩) n cp),(17,.int .i64 (n:Nat)),(18,.int .i64 (i:Nat)),(5,.slice (clA o) (tiTo d S i).length (clC o)),(6,.int .i64 (i:Nat)),(7,.pointer (some ⟨b7,0,none⟩)),(8,.int .i64 (workT S i x d.win)),(11,.bool (!bB))]) (fun _=>(b7,[.int .i64 x.who,.int .i64 x.fr,.int .i64 x.to],some (91,3,1))::(clH 222 3 (tiB (tiTo d S i)) o++[(g,shB S,some (91,3,cp)),(b2,[.int .i64 d.most,.int .i64 d.rest,.int .i64 d.win,.int .i64 d.sum],some (80,4,1))])) (fun _=>True) ?_ ?_
     · by_cases h4:i=0
       · subst h4
         obtain rfl:bB=false:=by rw [← hbB];rfl
         repeat' (first|((with_reducible apply oq_id);first|((with_reducible apply oq_eqlT);exact rfl;exact rfl;omega)|(apply oq_fn;exact rfl;first|exact trivial|(and_intros<;>omega)|omega|skip))|((with_reducible apply gx_id);first|(with_reducible apply v_nil)|((with_reducible apply v_q);(iterate 3 exact rfl))|((with_reducible apply v_skip);(iterate 3 exact rfl)))|((with_reducible apply t_id);first|(apply t_mix (id:=13) [0,1,2,3,4,5,6,7,8,9,10,11,12,13,14,15,16,17,18,19,20,21,22,23,24,25,26,27] 0 #[false,false,false,false,false,false,false,false,false,false,false,false,false,false,false,false,false,false,false,false,false,false,false,false,false,false,false,false];kernel_rfl;kernel_rfl;exact rfl))|((with_reducible apply al_id);first|(apply al_done;decide +kernel)))
         all_goals exact ⟨rfl,(),trivial,by (repeat first|exact FrSub.nil|(apply FrSub.cons;exact rfl)),by (repeat (first|exact HpSub.refl _|(apply HpSub.consE;(repeat (first|exact P0|apply P1|apply PA));exact rfl)|apply HpSub.appC|apply HpSub.skipX|apply HpSub.skip|apply HpSub.skipApp|exact HpSub.nil))⟩
       obtain ⟨y,hy⟩:∃ y,S[i-1]?=some y:=⟨_,List.getElem?_eq_getElem (by omega)⟩
       obtain ⟨r0,r1,r2⟩:=sh_at hy
       have hyo:=hall y (List.mem_of_getElem? hy)
       unfold shOk at hyo
       unfold restB at hbB
       rw [hy,show decide (0<i)=true by simp;omega,Bool.true_and] at hbB
       by_cases h5:y.who=x.who
       · have hyx:=(hfit i x hx).2 y (by omega) hy h5
         by_cases h6:x.fr-y.to<d.rest
         · obtain rfl:bB=true:=by rw [← hbB];simp [h5,h6]
           repeat' (first|((with_reducible apply oq_id);first|(focus ((with_reducible apply oq_indexAddrN);(iterate 4 exact rfl);omega))|((with_reducible apply oq_subE (k:=((i-1:Nat):Int)));exact rfl;exact rfl;omega)|((with_reducible apply oq_eqlF);exact rfl;exact rfl;omega)|((with_reducible apply oq_neqF);exact rfl;exact rfl;omega)|((with_reducible apply oq_geqF);exact rfl;exact rfl;omega)|(apply oq_fn;exact rfl;first|exact trivial|(and_intros<;>omega)|omega|skip)|((with_reducible apply oq_load);exact rfl;exact rfl))|((with_reducible apply gx_id);first|(with_reducible apply v_nil)|((with_reducible apply v_q);(iterate 3 exact rfl)))|((with_reducible apply rd_id);first|(apply Rd.own;(repeat (first|exact P0|apply P1|apply PA));first|exact q0|exact q1|exact q2|exact r0|exact r1|exact r2;done)|(apply Rd.own;(repeat (first|exact P0|apply P1|apply PA));exact rfl;done))|((with_reducible apply t_id);first|(apply t_mix (id:=13) [0,1,2,3,4,5,6,7,8,9,10,11,12,13,14,15,16,17,18,19,20,21,22,23,24,25,26,27] 0 #[false,false,false,false,false,false,false,false,false,false,false,false,false,false,false,false,false,false,false,false,false,false,false,false,false,false,false,false];kernel_rfl;kernel_rfl;exact rfl))|((with_reducible apply al_id);first|(apply al_done;decide +kernel)))
           all_goals exact ⟨rfl,(),trivial,by (repeat first|exact FrSub.nil|(apply FrSub.cons;exact rfl)),by (repeat (first|exact HpSub.refl _|(apply HpSub.consE;(repeat (first|exact P0|apply P1|apply PA));exact rfl)|apply HpSub.appC|apply HpSub.skipX|apply HpSub.skip|apply HpSub.skipApp|exact HpSub.nil))⟩
         · obtain rfl:bB=false:=by rw [← hbB];simp [h5,h6]
           repeat' (first|((with_reducible apply oq_id);first|(focus ((with_reducible apply oq_indexAddrN);(iterate 4 exact rfl);omega))|((with_reducible apply oq_subE (k:=((i-1:Nat):Int)));exact rfl;exact rfl;omega)|((with_reducible apply oq_eqlF);exact rfl;exact rfl;omega)|((with_reducible apply oq_neqF);exact rfl;exact rfl;omega)|((with_reducible apply oq_geqT);exact rfl;exact rfl;omega)|(apply oq_fn;exact rfl;first|exact trivial|(and_intros<;>omega)|omega|skip)|((with_reducible apply oq_load);exact rfl;exact rfl))|((with_reducible apply gx_id);first|(with_reducible apply v_nil)|((with_reducible apply v_q);(iterate 3 exact rfl)))|((with_reducible apply rd_id);first|(apply Rd.own;(repeat (first|exact P0|apply P1|apply PA));first|exact q0|exact q1|exact q2|exact r0|exact r1|exact r2;done)|(apply Rd.own;(repeat (first|exact P0|apply P1|apply PA));exact rfl;done))|((with_reducible apply t_id);first|(apply t_mix (id:=13) [0,1,2,3,4,5,6,7,8,9,10,11,12,13,14,15,16,17,18,19,20,21,22,23,24,25,26,27] 0 #[false,false,false,false,false,false,false,false,false,false,false,false,false,false,false,false,false,false,false,false,false,false,false,false,false,false,false,false];kernel_rfl;kernel_rfl;exact rfl))|((with_reducible apply al_id);first|(apply al_done;decide +kernel)))
           all_goals exact ⟨rfl,(),trivial,by (repeat first|exact FrSub.nil|(apply FrSub.cons;exact rfl)),by (repeat (first|exact HpSub.refl _|(apply HpSub.consE;(repeat (first|exact P0|apply P1|apply PA));exact rfl)|apply HpSub.appC|apply HpSub.skipX|apply HpSub.skip|apply HpSub.skipApp|exact HpSub.nil))⟩
       · obtain rfl:bB=false:=by rw [← hbB];simp [h5]
         repeat' (first|((with_reducible apply oq_id);first|(focus ((with_reducible apply oq_indexAddrN);(iterate 4 exact rfl);omega))|((with_reducible apply oq_subE (k:=((i-1:Nat):Int)));exact rfl;exact rfl;omega)|((with_reducible apply oq_eqlF);exact rfl;exact rfl;omega)|((with_reducible apply oq_neqT);exact rfl;exact rfl;omega)|(apply oq_fn;exact rfl;first|exact trivial|(and_intros<;>omega)|omega|skip)|((with_reducible apply oq_load);exact rfl;exact rfl))|((with_reducible apply gx_id);first|(with_reducible apply v_nil)|((with_reducible apply v_q);(iterate 3 exact rfl))|((with_reducible apply v_skip);(iterate 3 exact rfl)))|((with_reducible apply rd_id);first|(apply Rd.own;(repeat (first|exact P0|apply P1|apply PA));first|exact q0|exact q1|exact q2|exact r0|exact r1|exact r2;done)|(apply Rd.own;(repeat (first|exact P0|apply P1|apply PA));exact rfl;done))|((with_reducible apply t_id);first|(apply t_mix (id:=13) [0,1,2,3,4,5,6,7,8,9,10,11,12,13,14,15,16,17,18,19,20,21,22,23,24,25,26,27] 0 #[false,false,false,false,false,false,false,false,false,false,false,false,false,false,false,false,false,false,false,false,false,false,false,false,false,false,false,false];kernel_rfl;kernel_rfl;exact rfl))|((with_reducible apply al_id);first|(apply al_done;decide +kernel)))
         all_goals exact ⟨rfl,(),trivial,by (repeat first|exact FrSub.nil|(apply FrSub.cons;exact rfl)),by (repeat (first|exact HpSub.refl _|(apply HpSub.consE;(repeat (first|exact P0|apply P1|apply PA));exact rfl)|apply HpSub.appC|apply HpSub.skipX|apply HpSub.skip|apply HpSub.skipApp|exact HpSub.nil))⟩
     rintro ⟨⟩ -
     obtain ⟨bA,hbA⟩:∃ b,decide (x.to-x.fr > d.most)=b:=⟨_,rfl⟩
     obtain ⟨bC,hbC⟩:∃ b,decide (workV S x.who x.fr (x.fr+d.win) > d.sum)=b:=⟨_,rfl⟩
     rw [← hwk] at hbC
     refine t_cut (ι:=Unit) (fun _=>[(1,.slice (some ⟨g,0,none⟩) n cp),(2,.pointer (some ⟨b2,0,none⟩)),(16,.slice (some ⟨g,0,none⟩) n cp),(17,.int .i64 (n:Nat)),(18,.int .i64 (i:Nat)),(5,.slice (clA o) (tiTo d S i).length (clC o)),(6,.int .i64 (i:Nat)),(7,.pointer (some ⟨b7,0,none⟩)),(95,.agg #[.int .i64 1,.bool bA,.int .i64 2,.bool bB,.int .i64 3,.bool bC]),(96,.int .i64 0)]) (fun _=>(b7,[.int .i64 x.who,.int .i64 x.fr,.int .i64 x.to],some (91,3,1))::(clH 222 3 (tiB (tiTo d S i)) o++[(g,shB S,some (91,3,cp)),(b2,[.int .i64 d.most,.int .i64 d.rest,.int .i64 d.win,.int .i64 d.sum],some (80,4,1))])) (fun _=>True) ?_ ?_
     · cases bA<;>cases bB<;>cases bC
       all_goals (simp only [decide_eq_true_eq,decide_eq_false_iff_not,gt_iff_lt] at hbA hbC)
       all_goals (repeat' (first|((with_reducible apply oq_id);first|((with_reducible apply oq_gtrT);exact rfl;exact rfl;omega)|((with_reducible apply oq_gtrF);exact rfl;exact rfl;omega)|(apply oq_fn;exact rfl;first|exact trivial|(and_intros<;>omega)|omega|skip)|((with_reducible apply oq_load);exact rfl;exact rfl)|((with_reducible apply oq_build);(iterate 3 exact rfl))|((with_reducible apply oq_buildA);(iterate 4 exact rfl)))|((with_reducible apply tl_id);first|(with_reducible apply tl_nil)|((with_reducible apply u_q);(iterate 4 exact rfl)))|((with_reducible apply rd_id);first|(apply Rd.own;(repeat (first|exact P0|apply P1|apply PA));exact rfl;done))|((with_reducible apply t_id);first|(apply t_region;kernel_rfl))|((with_reducible apply Norm.nil);exact rfl)|((with_reducible apply Norm.cons);exact rfl)))
       all_goals exact ⟨rfl,(),trivial,by (repeat first|exact FrSub.nil|(apply FrSub.cons;exact rfl)),by (repeat (first|exact HpSub.refl _|(apply HpSub.consE;(repeat (first|exact P0|apply P1|apply PA));exact rfl)|apply HpSub.appC|apply HpSub.skipX|apply HpSub.skip|apply HpSub.skipApp|exact HpSub.nil))⟩
     rintro ⟨⟩ -
     have hT0:tiTo d S i++casK bA bB bC x 0=tiTo d S i:=List.append_nil _
     have hT3:tiTo d S i++casK bA bB bC x 3=tiTo d S (i+1):=by
       rw [tiTo_succ hx,casK_all hbA.symm hbB.symm (by rw [← hwk];exact hbC.symm)]
     repeat' (first|((with_reducible apply t_id);first|(with_reducible apply t_block)))
     apply t_loopK (GH:=[]) (ι:=Nat×Option (Nat×Nat)) [1,2,6,7,16,17,18,95] (fun z=>[(96,.int .i64 (z.1:Nat)),(5,.slice (clA z.2) (tiTo d S i++casK bA bB bC x z.1).length (clC z.2))]) (fun z=>(b7,[.int .i64 x.who,.int .i64 x.fr,.int .i64 x.to],some (91,3,1))::(clH 222 3 (tiB (tiTo d S i++casK bA bB bC x z.1)) z.2++[(g,shB S,some (91,3,cp)),(b2,[.int .i64 d.most,.int .i64 d.rest,.int .i64 d.win,.int .i64 d.sum],some (80,4,1))])) (fun z=>z.1≤3∧(z.2=none→(tiTo d S i++casK bA bB bC x z.1).length=0)) (fun z=>3-z.1) ((0,o))
     (repeat (first|exact KeepF.nil|(apply KeepF.cons;exact rfl)|apply KeepF.skip))
     (repeat (first|exact FrSub.nil|(apply FrSub.cons;exact rfl)|(apply FrSub.consE;exact rfl;(simp only [hT0]))))
     ((try simp only [List.append_nil,hT0]);(repeat (first|exact HpSub.refl _|(apply HpSub.consE;(repeat (first|exact P0|apply P1|apply PA));exact rfl)|apply HpSub.appC|apply HpSub.skipX|apply HpSub.skip|apply HpSub.skipApp|exact HpSub.nil)))
     · exact ⟨Nat.zero_le _,by (simp only [hT0];exact ho)⟩
     rintro ⟨k,o2⟩ ⟨hk,ho2⟩
     simp only at hk ho2
     simp only [List.append_nil]
     have hkl:(tiTo d S i++casK bA bB bC x k).length≤3*i+3:=by
       rw [List.length_append]
       have:=casK_len bA bB bC x k
       omega
     rcases (show k=0∨k=1∨k=2∨k=3 by omega) with rfl|rfl|rfl|rfl
     · obtain ⟨T0,hT⟩:∃ T,tiTo d S i++casK bA bB bC x 0=T:=⟨_,rfl⟩
       rw [hT] at hkl ho2 ⊢
       cases bA with
       | false=>
         have e1:tiTo d S i++casK false bB bC x 1=T0:=by rw [← hT];simp [casK]
         repeat' (first|((with_reducible apply oq_id);first|((with_reducible apply oq_lssT);exact rfl;exact rfl;omega)|(apply oq_fn;exact rfl;first|exact trivial|(and_intros<;>omega)|omega|skip)|((with_reducible apply oq_load);exact rfl;exact rfl)|((with_reducible apply oq_indexAgg);(iterate 4 exact rfl)))|((with_reducible apply tl_id);first|(with_reducible apply tl_nil)|((with_reducible apply u_q);(iterate 4 exact rfl))|((with_reducible apply u_s0);exact rfl;exact rfl)|((with_reducible apply u_s);(iterate 3 exact rfl)))|((with_reducible apply os_id);first|((with_reducible apply os_x);exact rfl)|((with_reducible apply os_storeAgg);(iterate 5 exact rfl)))|((with_reducible apply ox_id);first|((with_reducible apply ox_alloc);exact rfl;intro _))|((with_reducible apply rd_id);first|(apply Rd.own;(repeat (first|exact P0|apply P1|apply PA));exact rfl;done))|((with_reducible apply t_id);first|(with_reducible apply t_seq)|(apply t_region;kernel_rfl)|((with_reducible apply t_condT);exact rfl)|((with_reducible apply t_condF);exact rfl)|(with_reducible apply t_skip)|(with_reducible apply t_block))|with_reducible apply q_thenN|with_reducible apply q_blockN|exact P0|((with_reducible apply Norm.nil);exact rfl)|((with_reducible apply Norm.cons);exact rfl)|exact Nat.le_of_ble_eq_true rfl|omega)
         all_goals (refine ⟨(1,o2),⟨(by simp only;omega),(by simp only [e1];exact ho2)⟩,(by simp only;omega),?_,?_⟩)
         all_goals (simp only [e1])
         all_goals first
           | ((try simp only [List.cons_append,List.nil_append]);(repeat first|exact FrSub.nil|(apply FrSub.cons;exact rfl));done)
           | ((try simp only [List.cons_append,List.nil_append]);(repeat (first|exact HpSub.refl _|(apply HpSub.consE;(repeat (first|exact P0|apply P1|apply PA));exact rfl)|apply HpSub.appC|apply HpSub.skipX|apply HpSub.skip|apply HpSub.skipApp|exact HpSub.nil));done)
       | true=>
         have e1:tiTo d S i++casK true bB bC x 1=T0++[⟨1,x.who,x.fr⟩]:=by rw [← hT];simp [casK]
         rcases o2 with _|⟨go,co⟩
         · have h0:=ho2 rfl
           obtain rfl:=List.length_eq_zero_iff.1 h0
           simp only [clA,clC,clH,List.nil_append,List.length_nil]
           repeat' (first|((with_reducible apply oq_id);first|((with_reducible apply oq_lssT);exact rfl;exact rfl;omega)|(apply oq_fn;exact rfl;first|exact trivial|(and_intros<;>omega)|omega|skip)|((with_reducible apply oq_load);exact rfl;exact rfl)|((with_reducible apply oq_build);(iterate 3 exact rfl))|((with_reducible apply oq_indexAgg);(iterate 4 exact rfl)))|((with_reducible apply tl_id);first|(with_reducible apply tl_nil)|((with_reducible apply u_q);(iterate 4 exact rfl))|((with_reducible apply u_s0);exact rfl;exact rfl)|((with_reducible apply u_s);(iterate 3 exact rfl)))|((with_reducible apply os_id);first|((with_reducible apply os_x);exact rfl)|((with_reducible apply os_storeAgg);(iterate 5 exact rfl))|((with_reducible apply os_appendNil (hk:=app_ok92));exact rfl;exact rfl))|((with_reducible apply ox_id);first|((with_reducible apply ox_alloc);exact rfl;intro _)|((with_reducible apply ox_buildSlice);(iterate 4 exact rfl)))|((with_reducible apply rd_id);first|(apply Rd.own;(repeat (first|exact P0|apply P1|apply PA));exact rfl;done))|((with_reducible apply t_id);first|(with_reducible apply t_seq)|(apply t_region;kernel_rfl)|((with_reducible apply t_condT);exact rfl)|(with_reducible apply t_skip)|(with_reducible apply t_block))|with_reducible apply q_thenN|with_reducible apply q_blockN|exact P0|exact Rdn.zero|apply Rdn.succ|((with_reducible apply Norm.nil);exact rfl)|((with_reducible apply Norm.cons);exact rfl)|(intro gN cN;with_reducible apply tl_id)|exact Nat.le_of_ble_eq_true rfl|exact (rfl:(_:Bool)=true)|omega|(intro _;with_reducible apply tl_id))
           all_goals (refine ⟨(1,some (gN,cN)),⟨(by simp only;omega),fun h=>by cases h⟩,(by simp only;omega),?_,?_⟩)
           all_goals (simp only [e1])
           all_goals first
             | ((try simp only [List.cons_append,List.nil_append]);(repeat (first|exact FrSub.nil|(apply FrSub.cons;exact rfl)|(apply FrSub.consE;exact rfl;(focus (simp;done)))));done)
             | ((try simp only [List.cons_append,List.nil_append]);(repeat (first|exact HpSub.refl _|(apply HpSub.consE;(repeat (first|exact P0|apply P1|apply PA));first|exact rfl|(focus (simp [tiB_app,tiB,tiCells];done)))|apply HpSub.appC|apply HpSub.skipX|apply HpSub.skip|apply HpSub.skipApp|exact HpSub.nil));done)
         · simp only [clA,clC,clH,List.cons_append,List.nil_append]
           repeat' (first|((with_reducible apply oq_id);first|((with_reducible apply oq_lssT);exact rfl;exact rfl;omega)|(apply oq_fn;exact rfl;first|exact trivial|(and_intros<;>omega)|omega|skip)|((with_reducible apply oq_load);exact rfl;exact rfl)|((with_reducible apply oq_build);(iterate 3 exact rfl))|((with_reducible apply oq_indexAgg);(iterate 4 exact rfl)))|((with_reducible apply tl_id);first|(with_reducible apply tl_nil)|((with_reducible apply u_q);(iterate 4 exact rfl))|((with_reducible apply u_s0);exact rfl;exact rfl)|((with_reducible apply u_s);(iterate 3 exact rfl)))|((with_reducible apply os_id);first|((with_reducible apply os_x);exact rfl)|((with_reducible apply os_storeAgg);(iterate 5 exact rfl))|((with_reducible apply os_append (hk:=app_ok92));exact rfl;exact rfl;(repeat (first|exact P0|apply P1|apply PA))))|((with_reducible apply ox_id);first|((with_reducible apply ox_alloc);exact rfl;intro _)|((with_reducible apply ox_buildSlice);(iterate 4 exact rfl)))|((with_reducible apply rd_id);first|(apply Rd.own;(repeat (first|exact P0|apply P1|apply PA));exact rfl;done))|((with_reducible apply t_id);first|(with_reducible apply t_seq)|(apply t_region;kernel_rfl)|((with_reducible apply t_condT);exact rfl)|(with_reducible apply t_skip)|(with_reducible apply t_block))|with_reducible apply q_thenN|with_reducible apply q_blockN|exact P0|exact Rdn.zero|apply Rdn.succ|((with_reducible apply Norm.nil);exact rfl)|((with_reducible apply Norm.cons);exact rfl)|exact tiB_len _|(intro gN cN;with_reducible apply tl_id)|exact Nat.le_of_ble_eq_true rfl|exact (rfl:(_:Bool)=true)|omega|(intro _;with_reducible apply tl_id))
           all_goals (refine ⟨(1,some (gN,cN)),⟨(by simp only;omega),fun h=>by cases h⟩,(by simp only;omega),?_,?_⟩)
           all_goals (simp only [e1])
           all_goals first
             | ((try simp only [List.cons_append,List.nil_append]);(repeat (first|exact FrSub.nil|(apply FrSub.cons;exact rfl)|(apply FrSub.consE;exact rfl;(focus (simp;done)))));done)
             | ((try simp only [List.cons_append,List.nil_append]);(repeat (first|exact HpSub.refl _|(apply HpSub.consE;(repeat (first|exact P0|apply P1|apply PA));first|exact rfl|(focus (simp [tiB_app,tiB,tiCells];done)))|apply HpSub.appC|apply HpSub.skipX|apply HpSub.skip|apply HpSub.skipApp|exact HpSub.nil));done)
     · obtain ⟨T0,hT⟩:∃ T,tiTo d S i++casK bA bB bC x 1=T:=⟨_,rfl⟩
       rw [hT] at hkl ho2 ⊢
       cases bB with
       | false=>
         have e1:tiTo d S i++casK bA false bC x 2=T0:=by rw [← hT];simp [casK]
         repeat' (first|((with_reducible apply oq_id);first|((with_reducible apply oq_lssT);exact rfl;exact rfl;omega)|(apply oq_fn;exact rfl;first|exact trivial|(and_intros<;>omega)|omega|skip)|((with_reducible apply oq_load);exact rfl;exact rfl)|((with_reducible apply oq_indexAgg);(iterate 4 exact rfl)))|((with_reducible apply tl_id);first|(with_reducible apply tl_nil)|((with_reducible apply u_q);(iterate 4 exact rfl))|((with_reducible apply u_s0);exact rfl;exact rfl)|((with_reducible apply u_s);(iterate 3 exact rfl)))|((with_reducible apply os_id);first|((with_reducible apply os_x);exact rfl)|((with_reducible apply os_storeAgg);(iterate 5 exact rfl)))|((with_reducible apply ox_id);first|((with_reducible apply ox_alloc);exact rfl;intro _))|((with_reducible apply rd_id);first|(apply Rd.own;(repeat (first|exact P0|apply P1|apply PA));exact rfl;done))|((with_reducible apply t_id);first|(with_reducible apply t_seq)|(apply t_region;kernel_rfl)|((with_reducible apply t_condT);exact rfl)|((with_reducible apply t_condF);exact rfl)|(with_reducible apply t_skip)|(with_reducible apply t_block))|with_reducible apply q_thenN|with_reducible apply q_blockN|exact P0|((with_reducible apply Norm.nil);exact rfl)|((with_reducible apply Norm.cons);exact rfl)|exact Nat.le_of_ble_eq_true rfl|omega)
         all_goals (refine ⟨(2,o2),⟨(by simp only;omega),(by simp only [e1];exact ho2)⟩,(by simp only;omega),?_,?_⟩)
         all_goals (simp only [e1])
         all_goals first
           | ((try simp only [List.cons_append,List.nil_append]);(repeat first|exact FrSub.nil|(apply FrSub.cons;exact rfl));done)
           | ((try simp only [List.cons_append,List.nil_append]);(repeat (first|exact HpSub.refl _|(apply HpSub.consE;(repeat (first|exact P0|apply P1|apply PA));exact rfl)|apply HpSub.appC|apply HpSub.skipX|apply HpSub.skip|apply HpSub.skipApp|exact HpSub.nil));done)
       | true=>
         have e1:tiTo d S i++casK bA true bC x 2=T0++[⟨2,x.who,x.fr⟩]:=by rw [← hT];simp [casK]
         rcases o2 with _|⟨go,co⟩
         · have h0:=ho2 rfl
           obtain rfl:=List.length_eq_zero_iff.1 h0
           simp only [clA,clC,clH,List.nil_append,List.length_nil]
           repeat' (first|((with_reducible apply oq_id);first|((with_reducible apply oq_lssT);exact rfl;exact rfl;omega)|(apply oq_fn;exact rfl;first|exact trivial|(and_intros<;>omega)|omega|skip)|((with_reducible apply oq_load);exact rfl;exact rfl)|((with_reducible apply oq_build);(iterate 3 exact rfl))|((with_reducible apply oq_indexAgg);(iterate 4 exact rfl)))|((with_reducible apply tl_id);first|(with_reducible apply tl_nil)|((with_reducible apply u_q);(iterate 4 exact rfl))|((with_reducible apply u_s0);exact rfl;exact rfl)|((with_reducible apply u_s);(iterate 3 exact rfl)))|((with_reducible apply os_id);first|((with_reducible apply os_x);exact rfl)|((with_reducible apply os_storeAgg);(iterate 5 exact rfl))|((with_reducible apply os_appendNil (hk:=app_ok92));exact rfl;exact rfl))|((with_reducible apply ox_id);first|((with_reducible apply ox_alloc);exact rfl;intro _)|((with_reducible apply ox_buildSlice);(iterate 4 exact rfl)))|((with_reducible apply rd_id);first|(apply Rd.own;(repeat (first|exact P0|apply P1|apply PA));exact rfl;done))|((with_reducible apply t_id);first|(with_reducible apply t_seq)|(apply t_region;kernel_rfl)|((with_reducible apply t_condT);exact rfl)|(with_reducible apply t_skip)|(with_reducible apply t_block))|with_reducible apply q_thenN|with_reducible apply q_blockN|exact P0|exact Rdn.zero|apply Rdn.succ|((with_reducible apply Norm.nil);exact rfl)|((with_reducible apply Norm.cons);exact rfl)|(intro gN cN;with_reducible apply tl_id)|exact Nat.le_of_ble_eq_true rfl|exact (rfl:(_:Bool)=true)|omega|(intro _;with_reducible apply tl_id))
           all_goals (refine ⟨(2,some (gN,cN)),⟨(by simp only;omega),fun h=>by cases h⟩,(by simp only;omega),?_,?_⟩)
           all_goals (simp only [e1])
           all_goals first
             | ((try simp only [List.cons_append,List.nil_append]);(repeat (first|exact FrSub.nil|(apply FrSub.cons;exact rfl)|(apply FrSub.consE;exact rfl;(focus (simp;done)))));done)
             | ((try simp only [List.cons_append,List.nil_append]);(repeat (first|exact HpSub.refl _|(apply HpSub.consE;(repeat (first|exact P0|apply P1|apply PA));first|exact rfl|(focus (simp [tiB_app,tiB,tiCells];done)))|apply HpSub.appC|apply HpSub.skipX|apply HpSub.skip|apply HpSub.skipApp|exact HpSub.nil));done)
         · simp only [clA,clC,clH,List.cons_append,List.nil_append]
           repeat' (first|((with_reducible apply oq_id);first|((with_reducible apply oq_lssT);exact rfl;exact rfl;omega)|(apply oq_fn;exact rfl;first|exact trivial|(and_intros<;>omega)|omega|skip)|((with_reducible apply oq_load);exact rfl;exact rfl)|((with_reducible apply oq_build);(iterate 3 exact rfl))|((with_reducible apply oq_indexAgg);(iterate 4 exact rfl)))|((with_reducible apply tl_id);first|(with_reducible apply tl_nil)|((with_reducible apply u_q);(iterate 4 exact rfl))|((with_reducible apply u_s0);exact rfl;exact rfl)|((with_reducible apply u_s);(iterate 3 exact rfl)))|((with_reducible apply os_id);first|((with_reducible apply os_x);exact rfl)|((with_reducible apply os_storeAgg);(iterate 5 exact rfl))|((with_reducible apply os_append (hk:=app_ok92));exact rfl;exact rfl;(repeat (first|exact P0|apply P1|apply PA))))|((with_reducible apply ox_id);first|((with_reducible apply ox_alloc);exact rfl;intro _)|((with_reducible apply ox_buildSlice);(iterate 4 exact rfl)))|((with_reducible apply rd_id);first|(apply Rd.own;(repeat (first|exact P0|apply P1|apply PA));exact rfl;done))|((with_reducible apply t_id);first|(with_reducible apply t_seq)|(apply t_region;kernel_rfl)|((with_reducible apply t_condT);exact rfl)|(with_reducible apply t_skip)|(with_reducible apply t_block))|with_reducible apply q_thenN|with_reducible apply q_blockN|exact P0|exact Rdn.zero|apply Rdn.succ|((with_reducible apply Norm.nil);exact rfl)|((with_reducible apply Norm.cons);exact rfl)|exact tiB_len _|(intro gN cN;with_reducible apply tl_id)|exact Nat.le_of_ble_eq_true rfl|exact (rfl:(_:Bool)=true)|omega|(intro _;with_reducible apply tl_id))
           all_goals (refine ⟨(2,some (gN,cN)),⟨(by simp only;omega),fun h=>by cases h⟩,(by simp only;omega),?_,?_⟩)
           all_goals (simp only [e1])
           all_goals first
             | ((try simp only [List.cons_append,List.nil_append]);(repeat (first|exact FrSub.nil|(apply FrSub.cons;exact rfl)|(apply FrSub.consE;exact rfl;(focus (simp;done)))));done)
             | ((try simp only [List.cons_append,List.nil_append]);(repeat (first|exact HpSub.refl _|(apply HpSub.consE;(repeat (first|exact P0|apply P1|apply PA));first|exact rfl|(focus (simp [tiB_app,tiB,tiCells];done)))|apply HpSub.appC|apply HpSub.skipX|apply HpSub.skip|apply HpSub.skipApp|exact HpSub.nil));done)
     · obtain ⟨T0,hT⟩:∃ T,tiTo d S i++casK bA bB bC x 2=T:=⟨_,rfl⟩
       rw [hT] at hkl ho2 ⊢
       cases bC with
       | false=>
         have e1:tiTo d S i++casK bA bB false x 3=T0:=by rw [← hT];simp [casK]
         repeat' (first|((with_reducible apply oq_id);first|((with_reducible apply oq_lssT);exact rfl;exact rfl;omega)|(apply oq_fn;exact rfl;first|exact trivial|(and_intros<;>omega)|omega|skip)|((with_reducible apply oq_load);exact rfl;exact rfl)|((with_reducible apply oq_indexAgg);(iterate 4 exact rfl)))|((with_reducible apply tl_id);first|(with_reducible apply tl_nil)|((with_reducible apply u_q);(iterate 4 exact rfl))|((with_reducible apply u_s0);exact rfl;exact rfl)|((with_reducible apply u_s);(iterate 3 exact rfl)))|((with_reducible apply os_id);first|((with_reducible apply os_x);exact rfl)|((with_reducible apply os_storeAgg);(iterate 5 exact rfl)))|((with_reducible apply ox_id);first|((with_reducible apply ox_alloc);exact rfl;intro _))|((with_reducible apply rd_id);first|(apply Rd.own;(repeat (first|exact P0|apply P1|apply PA));exact rfl;done))|((with_reducible apply t_id);first|(with_reducible apply t_seq)|(apply t_region;kernel_rfl)|((with_reducible apply t_condT);exact rfl)|((with_reducible apply t_condF);exact rfl)|(with_reducible apply t_skip)|(with_reducible apply t_block))|with_reducible apply q_thenN|with_reducible apply q_blockN|exact P0|((with_reducible apply Norm.nil);exact rfl)|((with_reducible apply Norm.cons);exact rfl)|exact Nat.le_of_ble_eq_true rfl|omega)
         all_goals (refine ⟨(3,o2),⟨(by simp only;omega),(by simp only [e1];exact ho2)⟩,(by simp only;omega),?_,?_⟩)
         all_goals (simp only [e1])
         all_goals first
           | ((try simp only [List.cons_append,List.nil_append]);(repeat first|exact FrSub.nil|(apply FrSub.cons;exact rfl));done)
           | ((try simp only [List.cons_append,List.nil_append]);(repeat (first|exact HpSub.refl _|(apply HpSub.consE;(repeat (first|exact P0|apply P1|apply PA));exact rfl)|apply HpSub.appC|apply HpSub.skipX|apply HpSub.skip|apply HpSub.skipApp|exact HpSub.nil));done)
       | true=>
         have e1:tiTo d S i++casK bA bB true x 3=T0++[⟨3,x.who,x.fr⟩]:=by rw [← hT];simp [casK]
         rcases o2 with _|⟨go,co⟩
         · have h0:=ho2 rfl
           obtain rfl:=List.length_eq_zero_iff.1 h0
           simp only [clA,clC,clH,List.nil_append,List.length_nil]
           repeat' (first|((with_reducible apply oq_id);first|((with_reducible apply oq_lssT);exact rfl;exact rfl;omega)|(apply oq_fn;exact rfl;first|exact trivial|(and_intros<;>omega)|omega|skip)|((with_reducible apply oq_load);exact rfl;exact rfl)|((with_reducible apply oq_build);(iterate 3 exact rfl))|((with_reducible apply oq_indexAgg);(iterate 4 exact rfl)))|((with_reducible apply tl_id);first|(with_reducible apply tl_nil)|((with_reducible apply u_q);(iterate 4 exact rfl))|((with_reducible apply u_s0);exact rfl;exact rfl)|((with_reducible apply u_s);(iterate 3 exact rfl)))|((with_reducible apply os_id);first|((with_reducible apply os_x);exact rfl)|((with_reducible apply os_storeAgg);(iterate 5 exact rfl))|((with_reducible apply os_appendNil (hk:=app_ok92));exact rfl;exact rfl))|((with_reducible apply ox_id);first|((with_reducible apply ox_alloc);exact rfl;intro _)|((with_reducible apply ox_buildSlice);(iterate 4 exact rfl)))|((with_reducible apply rd_id);first|(apply Rd.own;(repeat (first|exact P0|apply P1|apply PA));exact rfl;done))|((with_reducible apply t_id);first|(with_reducible apply t_seq)|(apply t_region;kernel_rfl)|((with_reducible apply t_condT);exact rfl)|(with_reducible apply t_skip)|(with_reducible apply t_block))|with_reducible apply q_thenN|with_reducible apply q_blockN|exact P0|exact Rdn.zero|apply Rdn.succ|((with_reducible apply Norm.nil);exact rfl)|((with_reducible apply Norm.cons);exact rfl)|(intro gN cN;with_reducible apply tl_id)|exact Nat.le_of_ble_eq_true rfl|exact (rfl:(_:Bool)=true)|omega|(intro _;with_reducible apply tl_id))
           all_goals (refine ⟨(3,some (gN,cN)),⟨(by simp only;omega),fun h=>by cases h⟩,(by simp only;omega),?_,?_⟩)
           all_goals (simp only [e1])
           all_goals first
             | ((try simp only [List.cons_append,List.nil_append]);(repeat (first|exact FrSub.nil|(apply FrSub.cons;exact rfl)|(apply FrSub.consE;exact rfl;(focus (simp;done)))));done)
             | ((try simp only [List.cons_append,List.nil_append]);(repeat (first|exact HpSub.refl _|(apply HpSub.consE;(repeat (first|exact P0|apply P1|apply PA));first|exact rfl|(focus (simp [tiB_app,tiB,tiCells];done)))|apply HpSub.appC|apply HpSub.skipX|apply HpSub.skip|apply HpSub.skipApp|exact HpSub.nil));done)
         · simp only [clA,clC,clH,List.cons_append,List.nil_append]
           repeat' (first|((with_reducible apply oq_id);first|((with_reducible apply oq_lssT);exact rfl;exact rfl;omega)|(apply oq_fn;exact rfl;first|exact trivial|(and_intros<;>omega)|omega|skip)|((with_reducible apply oq_load);exact rfl;exact rfl)|((with_reducible apply oq_build);(iterate 3 exact rfl))|((with_reducible apply oq_indexAgg);(iterate 4 exact rfl)))|((with_reducible apply tl_id);first|(with_reducible apply tl_nil)|((with_reducible apply u_q);(iterate 4 exact rfl))|((with_reducible apply u_s0);exact rfl;exact rfl)|((with_reducible apply u_s);(iterate 3 exact rfl)))|((with_reducible apply os_id);first|((with_reducible apply os_x);exact rfl)|((with_reducible apply os_storeAgg);(iterate 5 exact rfl))|((with_reducible apply os_append (hk:=app_ok92));exact rfl;exact rfl;(repeat (first|exact P0|apply P1|apply PA))))|((with_reducible apply ox_id);first|((with_reducible apply ox_alloc);exact rfl;intro _)|((with_reducible apply ox_buildSlice);(iterate 4 exact rfl)))|((with_reducible apply rd_id);first|(apply Rd.own;(repeat (first|exact P0|apply P1|apply PA));exact rfl;done))|((with_reducible apply t_id);first|(with_reducible apply t_seq)|(apply t_region;kernel_rfl)|((with_reducible apply t_condT);exact rfl)|(with_reducible apply t_skip)|(with_reducible apply t_block))|with_reducible apply q_thenN|with_reducible apply q_blockN|exact P0|exact Rdn.zero|apply Rdn.succ|((with_reducible apply Norm.nil);exact rfl)|((with_reducible apply Norm.cons);exact rfl)|exact tiB_len _|(intro gN cN;with_reducible apply tl_id)|exact Nat.le_of_ble_eq_true rfl|exact (rfl:(_:Bool)=true)|omega|(intro _;with_reducible apply tl_id))
           all_goals (refine ⟨(3,some (gN,cN)),⟨(by simp only;omega),fun h=>by cases h⟩,(by simp only;omega),?_,?_⟩)
           all_goals (simp only [e1])
           all_goals first
             | ((try simp only [List.cons_append,List.nil_append]);(repeat (first|exact FrSub.nil|(apply FrSub.cons;exact rfl)|(apply FrSub.consE;exact rfl;(focus (simp;done)))));done)
             | ((try simp only [List.cons_append,List.nil_append]);(repeat (first|exact HpSub.refl _|(apply HpSub.consE;(repeat (first|exact P0|apply P1|apply PA));first|exact rfl|(focus (simp [tiB_app,tiB,tiCells];done)))|apply HpSub.appC|apply HpSub.skipX|apply HpSub.skip|apply HpSub.skipApp|exact HpSub.nil));done)
     · rw [hT3] at ho2 ⊢
       repeat' (first|((with_reducible apply oq_id);first|((with_reducible apply oq_lssF);exact rfl;exact rfl;omega))|((with_reducible apply tl_id);first|(with_reducible apply tl_nil)|((with_reducible apply u_q);(iterate 4 exact rfl)))|((with_reducible apply t_id);first|(with_reducible apply t_seq)|(apply t_region;kernel_rfl)|((with_reducible apply t_condF);exact rfl)|(with_reducible apply t_exit))|with_reducible apply q_thenN|with_reducible apply q_blockN|with_reducible apply q_thenE|((with_reducible apply q_blockE);exact rfl))
       all_goals exact ⟨rfl,o2,ho2,by (repeat first|exact FrSub.nil|(apply FrSub.cons;exact rfl)),by (repeat (first|exact HpSub.refl _|(apply HpSub.consE;(repeat (first|exact P0|apply P1|apply PA));exact rfl)|apply HpSub.appC|apply HpSub.skipX|apply HpSub.skip|apply HpSub.skipApp|exact HpSub.nil))⟩
   · rintro o2 ho2
     repeat' (first|((with_reducible apply oq_id);first|(apply oq_fn;exact rfl;first|exact trivial|(and_intros<;>omega)|omega|skip))|((with_reducible apply tl_id);first|(with_reducible apply tl_nil)|((with_reducible apply u_q);(iterate 4 exact rfl)))|((with_reducible apply t_id);first|(apply t_region;kernel_rfl))|with_reducible apply q_thenN)
     all_goals (refine ⟨(i+1,o2),⟨(by simp only;omega),ho2⟩,(by simp only;omega),?_,?_⟩)
     all_goals first
       | ((try simp only [List.cons_append,List.nil_append]);(repeat first|exact FrSub.nil|(apply FrSub.cons;exact rfl));done)
       | ((try simp only [List.cons_append,List.nil_append]);(repeat (first|exact HpSub.refl _|(apply HpSub.consE;(repeat (first|exact P0|apply P1|apply PA));exact rfl)|apply HpSub.appC|apply HpSub.skipX|apply HpSub.skip|apply HpSub.skipApp|exact HpSub.nil));done)
 · obtain rfl:i=n:=by omega
   rw [hti]
   repeat' (first|((with_reducible apply oq_id);first|((with_reducible apply oq_lssF);exact rfl;exact rfl;omega)|(apply oq_fn;exact rfl;first|exact trivial|(and_intros<;>omega)|omega|skip))|((with_reducible apply tl_id);first|(with_reducible apply tl_nil)|((with_reducible apply u_q);(iterate 4 exact rfl)))|((with_reducible apply t_id);first|(with_reducible apply t_seq)|(apply t_region;kernel_rfl)|((with_reducible apply t_condF);exact rfl)|(with_reducible apply t_ret)|(with_reducible apply t_exit))|with_reducible apply q_thenN|with_reducible apply q_thenE|((with_reducible apply q_blockE);exact rfl)|(with_reducible apply end_ret)|exact rvs_nil|(with_reducible apply rvs_cons)|((with_reducible apply rv_tmp);exact rfl))
   all_goals exact ⟨_,⟨o,ho,rfl,rfl⟩,hp_left⟩
theorem dutyR_calls (d:Du) (w:World):Calls Try.prog 84 #[.agg #[.int .i64 d.most,.int .i64 d.rest,.int .i64 d.win,.int .i64 d.sum]] w fun e w'=>e=.returned (.int .i64 (duE d))∧Ext w w':=by
 obtain ⟨q1,hq1⟩:∃ q,allFromK 1 100000 [d.most,d.win]=q:=⟨_,rfl⟩
 obtain ⟨q2,hq2⟩:∃ q,allFromK 0 100000 [d.rest]=q:=⟨_,rfl⟩
 obtain ⟨q3,hq3⟩:∃ q,allFromK 0 d.win [d.sum]=q:=⟨_,rfl⟩
 have e1:q1=true↔(1≤d.most∧d.most≤100000)∧1≤d.win∧d.win≤100000:=by rw [← hq1];unfold allFromK;simp
 have e2:q2=true↔0≤d.rest∧d.rest≤100000:=by rw [← hq2];exact allFrom_one
 have e3:q3=true↔0≤d.sum∧d.sum≤d.win:=by rw [← hq3];exact allFrom_one
 have hdu:duB d↔q1=true∧q2=true∧q3=true:=by rw [e1,e2,e3];unfold duB;omega
 unfold duE
 cases q1 with
 | false=>
   rw [if_neg (fun h=>by have:=(hdu.1 h).1;cases this)]
   refine enterQ (c:=cx w 26) Try.func84 rfl rfl rfl rfl ?_
   repeat' (first|((with_reducible apply oq_id);first|(apply oq_fn;exact rfl;first|exact trivial|(and_intros<;>omega)|omega|skip)|((with_reducible apply oq_load);exact rfl;exact rfl)|((with_reducible apply oq_call (hc:=Try.call87));exact rfl;exact rfl;exact fun D w1 hw1=>fromTwo hq1 hw1 (by (repeat first|exact P0|apply P1))))|((with_reducible apply tl_id);first|(with_reducible apply tl_nil)|((with_reducible apply u_q);(iterate 4 exact rfl))|((with_reducible apply u_s);(iterate 3 exact rfl))|((with_reducible apply u_skip);(iterate 3 exact rfl)))|((with_reducible apply os_id);first|((with_reducible apply os_x);exact rfl))|((with_reducible apply ox_id);first|((with_reducible apply ox_boxAgg);exact rfl;intro _)|((with_reducible apply ox_buildSlice1);(iterate 6 exact rfl);intro _))|((with_reducible apply rd_id);first|(apply Rd.own;(repeat first|exact P0|apply P1);exact rfl;done))|((with_reducible apply t_id);first|(with_reducible apply t_seq)|(apply t_region;kernel_rfl)|((with_reducible apply t_condT);exact rfl)|(with_reducible apply t_ret))|with_reducible apply q_thenN|with_reducible apply q_thenR|(with_reducible apply end_ret)|exact rvs_nil|(with_reducible apply rvs_cons)|((with_reducible apply rv_tmp);exact rfl))
   all_goals rfl
 | true=>
   cases q2 with
   | false=>
     rw [if_neg (fun h=>by have:=(hdu.1 h).2.1;cases this)]
     refine enterQ (c:=cx w 26) Try.func84 rfl rfl rfl rfl ?_
     repeat' (first|((with_reducible apply oq_id);first|(apply oq_fn;exact rfl;first|exact trivial|(and_intros<;>omega)|omega|skip)|((with_reducible apply oq_load);exact rfl;exact rfl)|((with_reducible apply oq_call (hc:=Try.call87));exact rfl;exact rfl;exact fun D w1 hw1=>fromTwo hq1 hw1 (by (repeat first|exact P0|apply P1)))|((with_reducible apply oq_call (hc:=Try.call87));exact rfl;exact rfl;exact fun D w1 hw1=>fromOneK hq2 hw1 (by (repeat first|exact P0|apply P1))))|((with_reducible apply tl_id);first|(with_reducible apply tl_nil)|((with_reducible apply u_q);(iterate 4 exact rfl))|((with_reducible apply u_s);(iterate 3 exact rfl))|((with_reducible apply u_skip);(iterate 3 exact rfl)))|((with_reducible apply os_id);first|((with_reducible apply os_x);exact rfl))|((with_reducible apply ox_id);first|((with_reducible apply ox_boxAgg);exact rfl;intro _)|((with_reducible apply ox_buildSlice1);(iterate 6 exact rfl);intro _))|((with_reducible apply rd_id);first|(apply Rd.own;(repeat first|exact P0|apply P1);exact rfl;done))|((with_reducible apply t_id);first|(with_reducible apply t_seq)|(apply t_region;kernel_rfl)|((with_reducible apply t_condT);exact rfl)|(with_reducible apply t_ret))|with_reducible apply q_thenN|with_reducible apply q_thenR|(with_reducible apply end_ret)|exact rvs_nil|(with_reducible apply rvs_cons)|((with_reducible apply rv_tmp);exact rfl))
     all_goals rfl
   | true=>
     cases q3 with
     | false=>
       rw [if_neg (fun h=>by have:=(hdu.1 h).2.2;cases this)]
       refine enterQ (c:=cx w 26) Try.func84 rfl rfl rfl rfl ?_
       repeat' (first|((with_reducible apply oq_id);first|(apply oq_fn;exact rfl;first|exact trivial|(and_intros<;>omega)|omega|skip)|((with_reducible apply oq_load);exact rfl;exact rfl)|((with_reducible apply oq_call (hc:=Try.call87));exact rfl;exact rfl;exact fun D w1 hw1=>fromTwo hq1 hw1 (by (repeat first|exact P0|apply P1)))|((with_reducible apply oq_call (hc:=Try.call87));exact rfl;exact rfl;exact fun D w1 hw1=>fromOneK hq2 hw1 (by (repeat first|exact P0|apply P1)))|((with_reducible apply oq_call (hc:=Try.call87));exact rfl;exact rfl;exact fun D w1 hw1=>fromOneK hq3 hw1 (by (repeat first|exact P0|apply P1))))|((with_reducible apply tl_id);first|(with_reducible apply tl_nil)|((with_reducible apply u_q);(iterate 4 exact rfl))|((with_reducible apply u_s);(iterate 3 exact rfl)))|((with_reducible apply os_id);first|((with_reducible apply os_x);exact rfl))|((with_reducible apply ox_id);first|((with_reducible apply ox_boxAgg);exact rfl;intro _)|((with_reducible apply ox_buildSlice1);(iterate 6 exact rfl);intro _))|((with_reducible apply rd_id);first|(apply Rd.own;(repeat first|exact P0|apply P1);exact rfl;done))|((with_reducible apply t_id);first|(with_reducible apply t_seq)|(apply t_region;kernel_rfl)|((with_reducible apply t_condT);exact rfl)|(with_reducible apply t_ret))|with_reducible apply q_thenN|with_reducible apply q_thenR|(with_reducible apply end_ret)|exact rvs_nil|(with_reducible apply rvs_cons)|((with_reducible apply rv_tmp);exact rfl))
       all_goals rfl
     | true=>
       rw [if_pos (hdu.2 ⟨rfl,rfl,rfl⟩)]
       refine enterQ (c:=cx w 26) Try.func84 rfl rfl rfl rfl ?_
       repeat' (first|((with_reducible apply oq_id);first|(apply oq_fn;exact rfl;first|exact trivial|(and_intros<;>omega)|omega|skip)|((with_reducible apply oq_load);exact rfl;exact rfl)|((with_reducible apply oq_call (hc:=Try.call87));exact rfl;exact rfl;exact fun D w1 hw1=>fromTwo hq1 hw1 (by (repeat first|exact P0|apply P1)))|((with_reducible apply oq_call (hc:=Try.call87));exact rfl;exact rfl;exact fun D w1 hw1=>fromOneK hq2 hw1 (by (repeat first|exact P0|apply P1)))|((with_reducible apply oq_call (hc:=Try.call87));exact rfl;exact rfl;exact fun D w1 hw1=>fromOneK hq3 hw1 (by (repeat first|exact P0|apply P1))))|((with_reducible apply tl_id);first|(with_reducible apply tl_nil)|((with_reducible apply u_q);(iterate 4 exact rfl))|((with_reducible apply u_s);(iterate 3 exact rfl)))|((with_reducible apply os_id);first|((with_reducible apply os_x);exact rfl))|((with_reducible apply ox_id);first|((with_reducible apply ox_boxAgg);exact rfl;intro _)|((with_reducible apply ox_buildSlice1);(iterate 6 exact rfl);intro _))|((with_reducible apply rd_id);first|(apply Rd.own;(repeat first|exact P0|apply P1);exact rfl;done))|((with_reducible apply t_id);first|(with_reducible apply t_seq)|(apply t_region;kernel_rfl)|((with_reducible apply t_condF);exact rfl)|(with_reducible apply t_ret)|(with_reducible apply t_skip))|with_reducible apply q_thenN|(with_reducible apply end_ret)|exact rvs_nil|(with_reducible apply rvs_cons)|((with_reducible apply rv_tmp);exact rfl))
       all_goals rfl
def tiL (d:Du) (l:List Sh):List Ti:=if tiE d l=0 then tiV d l else []
def TiE (E:Int) (T:List Ti) (v:Value) (H:Hp):Prop:=∃ x,(x=none→T.length=0)∧v=.tuple #[.slice (clA x) T.length (clC x),.int .i64 E]∧H=clH 222 3 (tiB T) x
theorem tiE_ok {d:Du} {l:List Sh} (h:tiE d l=0):duB d∧l.length≤40∧Ros l:=by
 unfold tiE duE rosE at h
 by_cases h1:duB d
 · rw [if_pos h1] at h
   by_cases h2:40<l.length
   · rw [if_pos h2] at h;simp at h
   · rw [if_neg h2] at h
     by_cases h3:Ros l
     · exact ⟨h1,by omega,h3⟩
     · rw [if_neg h3] at h;simp at h
 · rw [if_neg h1] at h;simp at h
theorem tiE_eq {d:Du} {l:List Sh}:(if duE d=0 then rosE l else duE d)=tiE d l:=rfl
theorem tiredE_T (d:Du) (A:Option Addr) (n c:Nat) (l:List Sh) (w:World) (hr:RdS w 3 A n (l.map shCells)) (hA:A=none→n=0∧c=0) (hn:n≤1000000):Calls Try.prog 37 #[.agg #[.int .i64 d.most,.int .i64 d.rest,.int .i64 d.win,.int .i64 d.sum],.slice A n c] w fun e w'=>∃ v H',e=.returned v∧TiE (tiE d l) (tiL d l) v H'∧Has w ⟨[],[]⟩ H' w':=by
 have hl:=hr.len
 simp only [List.length_map] at hl
 have HD:=fun w1=>dutyR_calls d w1
 have HR:=fun w1 h=>rosR_calls A n c l w1 h hA hn
 obtain ⟨E,hE⟩:∃ E,tiE d l=E:=⟨_,rfl⟩
 have hEq:=tiE_eq (d:=d) (l:=l)
 rw [hE] at hEq
 obtain ⟨p,hp⟩:∃ p,duE d=p:=⟨_,rfl⟩
 obtain ⟨q,hq⟩:∃ q,rosE l=q:=⟨_,rfl⟩
 rw [hp,hq] at hEq
 rw [hp] at HD
 rw [hq] at HR
 have HO:=fun A cp w c0 c1=>orE_calls p q A cp w c0 c1
 rw [hEq] at HO
 rw [hE]
 by_cases h0:E=0
 · subst h0
   obtain ⟨hd,hl40,hRos⟩:=tiE_ok hE
   have hL:tiL d l=tiV d l:=by unfold tiL;rw [if_pos hE]
   rw [hL]
   obtain ⟨T,hT⟩:∃ T,tiV d l=T:=⟨_,rfl⟩
   rw [hT]
   refine enterF (c:=cx w 19) Try.func37 rfl rfl rfl rfl ?_
   repeat' (first|((with_reducible apply oq_id);first|((with_reducible apply oq_neqF);exact rfl;exact rfl;omega)|(apply oq_fn;exact rfl;first|exact trivial|(and_intros<;>omega)|omega|skip)|((with_reducible apply oq_loadAgg);exact rfl;exact rfl)|((with_reducible apply oq_call (hc:=Try.call84));exact rfl;exact rfl;exact fun D w1 hw1=>HD w1)|((with_reducible apply oq_call (hc:=Try.call85));exact rfl;exact rfl;exact fun D w1 hw1=>HR w1 (hr.ext hw1.ext.ext))|((with_reducible apply oq_call (hc:=Try.call83));exact rfl;exact rfl;exact fun D w1 hw1=>HO _ _ w1 (hw1.cellAt (by (repeat first|exact P0|apply P1)) rfl) (hw1.cellAt (by (repeat first|exact P0|apply P1)) rfl)))|((with_reducible apply tl_id);first|(with_reducible apply tl_nil)|((with_reducible apply u_s);(iterate 3 exact rfl);(with_reducible apply os_callF (PV:=TiO T) (hc:=Try.call91));exact rfl;exact rfl;exact fun D w1 hw1=>(by rw [← hT];exact tiredR_T d hd A n c l w1 (hr.ext hw1.ext.ext) hA (by omega) hRos);rintro v H' ⟨x,hx,rfl,rfl⟩;(try simp only [List.append_nil]))|((with_reducible apply u_q);(iterate 4 exact rfl))|((with_reducible apply u_s);(iterate 3 exact rfl)))|((with_reducible apply os_id);first|((with_reducible apply os_x);exact rfl))|((with_reducible apply ox_id);first|((with_reducible apply ox_boxAgg);exact rfl;intro _)|((with_reducible apply ox_buildSlice1);(iterate 6 exact rfl);intro _))|((with_reducible apply rd_id);first|(apply Rd.own;(repeat first|exact P0|apply P1);exact rfl;done))|((with_reducible apply t_id);first|(with_reducible apply t_seq)|(apply t_region;kernel_rfl)|((with_reducible apply t_condF);exact rfl)|(with_reducible apply t_ret)|(with_reducible apply t_skip))|with_reducible apply q_thenN|exact Rdn.zero|apply Rdn.succ|(with_reducible apply end_ret)|exact rvs_nil|(with_reducible apply rvs_cons)|((with_reducible apply rv_tmp);exact rfl))
   all_goals exact ⟨_,⟨x,hx,rfl,rfl⟩,hp_left⟩
 · have hL:tiL d l=[]:=by unfold tiL;rw [if_neg (by rw [hE];exact h0)]
   rw [hL]
   refine enterF (c:=cx w 19) Try.func37 rfl rfl rfl rfl ?_
   repeat' (first|((with_reducible apply oq_id);first|((with_reducible apply oq_neqT);exact rfl;exact rfl;omega)|(apply oq_fn;exact rfl;first|exact trivial|(and_intros<;>omega)|omega|skip)|((with_reducible apply oq_loadAgg);exact rfl;exact rfl)|((with_reducible apply oq_call (hc:=Try.call84));exact rfl;exact rfl;exact fun D w1 hw1=>HD w1)|((with_reducible apply oq_call (hc:=Try.call85));exact rfl;exact rfl;exact fun D w1 hw1=>HR w1 (hr.ext hw1.ext.ext))|((with_reducible apply oq_call (hc:=Try.call83));exact rfl;exact rfl;exact fun D w1 hw1=>HO _ _ w1 (hw1.cellAt (by (repeat first|exact P0|apply P1)) rfl) (hw1.cellAt (by (repeat first|exact P0|apply P1)) rfl)))|((with_reducible apply tl_id);first|(with_reducible apply tl_nil)|((with_reducible apply u_q);(iterate 4 exact rfl))|((with_reducible apply u_s);(iterate 3 exact rfl)))|((with_reducible apply os_id);first|((with_reducible apply os_x);exact rfl))|((with_reducible apply ox_id);first|((with_reducible apply ox_boxAgg);exact rfl;intro _)|((with_reducible apply ox_buildSlice1);(iterate 6 exact rfl);intro _))|((with_reducible apply rd_id);first|(apply Rd.own;(repeat first|exact P0|apply P1);exact rfl;done))|((with_reducible apply t_id);first|(with_reducible apply t_seq)|(apply t_region;kernel_rfl)|((with_reducible apply t_condT);exact rfl)|(with_reducible apply t_ret))|with_reducible apply q_thenN|with_reducible apply q_thenR|exact Rdn.zero|apply Rdn.succ|(with_reducible apply end_ret)|exact rvs_nil|(with_reducible apply rvs_cons)|((with_reducible apply rv_tmp);exact rfl))
   all_goals exact ⟨_,⟨none,fun _=>rfl,rfl,rfl⟩,HpSub.nil⟩
end Go.Proofs.Ytcjkndjjbjoehaa
