/- A part of the proof: rules for walks, and contracts of functions (7). -/
import Derived.Test.YtcjkndjjbjoehaaXTrF
import Derived.Test.YtcjkndjjbjoehaaXTrC
import Derived.Test.YtcjkndjjbjoehaaXTrD
import Derived.Test.YtcjkndjjbjoehaaXTrB
set_option linter.unusedVariables false
set_option linter.unusedSimpArgs false
set_option maxRecDepth 100000
set_option maxHeartbeats 2000000
namespace Go.Proofs.Ytcjkndjjbjoehaa
open Go.RowKit
attribute [local irreducible] OQ OS OX Rd T TL GX GL AL AI RV wpG SAny Calls
def SidV (l:List Pv) (v:Value) (H:Hp):Prop:=(l=[]∧v=.slice none 0 0∧H=[])∨(l≠[]∧∃ g cp,v=.slice (some ⟨g,0,none⟩) l.length cp∧H=[(g,coB Pv.x Pv.y l,some (111,2,cp))])
abbrev SiZ:=Option (Nat×Nat×List Pv)
def siL:SiZ→List Pv
 | none=>[]
 | some (_,_,l)=>l
def siH (b3:Nat):SiZ→Hp
 | none=>[(b3,[.slice none 0 0],some (101,1,1))]
 | some (g,cp,l)=>[(b3,[.slice (some ⟨g,0,none⟩) l.length cp],some (101,1,1)),(g,coB Pv.x Pv.y l,some (111,2,cp))]
theorem co_snoc (l:List Pv) (u:Pv):coB Pv.x Pv.y l++[.int .i64 u.x,.int .i64 u.y]=coB Pv.x Pv.y (l++[u]):=by
 simp only [coB,List.map_append,List.map_cons,List.map_nil,List.flatten_append,List.flatten_cons,List.flatten_nil,List.append_nil]
 rfl
def edU {L:List Pv} (x:Ed L):Pv:=Pv.sub x.1.2.2 x.1.2.1
theorem sides_P (pb po n c:Nat) (L:List Pv) (hl:L.length=n) (hn:n≤1000000) (hb:∀ q∈L,Bd 268435456 q) {a:Pv} {E F:List Pv} (rg:Rg L a E F) (w:World) (hr:RdS w 2 (some ⟨pb,po,none⟩) n (L.map (coC Pv.x Pv.y))) :
   Calls Try.prog 168 #[.slice (some ⟨pb,po,none⟩) n c] w fun e w'=>∃ v H',e=.returned v∧SidV (E++F) v H'∧Has w ⟨[],[]⟩ H' w':=by
 have hpw:pb<w.heap.size:=by
   have h0:=List.length_pos_iff.2 rg.ne_nil
   obtain ⟨B,O,e,hlt,_⟩:=hr.at_ (by omega)
   simp only [Option.some.injEq,Addr.mk.injEq] at e
   rw [e.1];exact hlt
 refine enterF (c:=cx w 20) Try.func168 rfl rfl rfl rfl ?_
 refine t_cut (ι:=Unit) (fun _=>[(0,.slice (some ⟨pb,po,none⟩) n c)]) (fun _=>([]:Hp)) (fun _=>True) ?_ ?_
 · repeat' (first|((with_reducible apply oq_id);first|(apply oq_fn;exact rfl;first|exact trivial|(and_intros<;>omega)|omega|skip))|((with_reducible apply tl_id);first|(with_reducible apply tl_nil)|((with_reducible apply u_q);(iterate 4 exact rfl)))|((with_reducible apply t_id);first|(apply t_region;kernel_rfl)))
   all_goals exact ⟨by trivial,(),trivial,by (repeat' (first|exact FrSub.nil|(apply FrSub.cons;exact rfl))),by (repeat' (first|exact HpSub.refl _))⟩
 rintro ⟨⟩ -
 try dsimp only
 refine t_cut (ι:=Nat) (fun b3=>[(0,.slice (some ⟨pb,po,none⟩) n c),(3,.pointer (some ⟨b3,0,none⟩))]) (fun b3=>[(b3,[.slice none 0 0],some (101,1,1))]) (fun _=>True) ?_ ?_
 · repeat' (first|((with_reducible apply tl_id);first|(with_reducible apply tl_nil)|((with_reducible apply u_s);(iterate 3 exact rfl)))|((with_reducible apply os_id);first|((with_reducible apply os_x);exact rfl))|((with_reducible apply ox_id);first|((with_reducible apply ox_alloc);exact rfl;intro _))|((with_reducible apply t_id);first|(apply t_region;kernel_rfl)))
   all_goals exact ⟨by trivial,_,trivial,by (repeat' (first|exact FrSub.nil|(apply FrSub.cons;exact rfl))),by (repeat' (first|exact HpSub.refl _))⟩
 rintro b3 -
 try dsimp only
 rcases rg.len0 with ⟨hE,hF,hl1⟩|⟨hE,hEF,hl2⟩
 · repeat' (first|((with_reducible apply oq_id);first|((with_reducible apply oq_gtrF);exact rfl;exact rfl;omega)|(apply oq_fn;exact rfl;first|exact trivial|(and_intros<;>omega)|omega|skip)|((with_reducible apply oq_load);exact rfl;exact rfl))|((with_reducible apply tl_id);first|(with_reducible apply tl_nil)|((with_reducible apply u_q);(iterate 4 exact rfl)))|((with_reducible apply rd_id);first|(apply Rd.own;(repeat first|exact P0|apply P1);exact rfl;done))|((with_reducible apply t_id);first|(with_reducible apply t_seq)|(apply t_region;kernel_rfl)|((with_reducible apply t_condF);exact rfl)|(with_reducible apply t_ret)|(with_reducible apply t_skip))|with_reducible apply q_thenN|(with_reducible apply end_ret)|exact rvs_nil|(with_reducible apply rvs_cons)|((with_reducible apply rv_tmp);exact rfl))
   all_goals exact ⟨_,.inl ⟨by rw [hE,hF];rfl,rfl,rfl⟩,HpSub.nil⟩
 (with_reducible apply t_seq)
 refine t_cut (ι:=Unit) (fun _=>[(0,.slice (some ⟨pb,po,none⟩) n c),(3,.pointer (some ⟨b3,0,none⟩)),(8,.bool true)]) (fun _=>[(b3,[.slice none 0 0],some (101,1,1))]) (fun _=>True) ?_ ?_
 · repeat' (first|((with_reducible apply oq_id);first|((with_reducible apply oq_gtrT);exact rfl;exact rfl;omega)|(apply oq_fn;exact rfl;first|exact trivial|(and_intros<;>omega)|omega|skip))|((with_reducible apply tl_id);first|(with_reducible apply tl_nil)|((with_reducible apply u_q);(iterate 4 exact rfl)))|((with_reducible apply t_id);first|(apply t_region;kernel_rfl)))
   all_goals exact ⟨by trivial,(),trivial,by (repeat' (first|exact FrSub.nil|(apply FrSub.cons;exact rfl))),by (repeat' (first|exact HpSub.refl _))⟩
 rintro ⟨⟩ -
 try dsimp only
 (with_reducible apply t_condT);exact rfl
 refine t_cut (ι:=Nat) (fun b0=>[(3,.pointer (some ⟨b3,0,none⟩)),(10,.func (.func 172) #[] #[.pointer (some ⟨b0,0,none⟩)])]) (fun b0=>[(b3,[.slice none 0 0],some (101,1,1)),(b0,[.slice (some ⟨pb,po,none⟩) n c],some (101,1,1))]) (fun _=>True) ?_ ?_
 · repeat' (first|((with_reducible apply oq_id);first|(apply oq_fn;exact rfl;first|exact trivial|(and_intros<;>omega)|omega|skip))|((with_reducible apply tl_id);first|(with_reducible apply tl_nil)|((with_reducible apply u_s);(iterate 3 exact rfl);(with_reducible apply os_callF (PV:=fun u H'=>∃ b0,u=.func (.func 172) #[] #[.pointer (some ⟨b0,0,none⟩)]∧H'=[(b0,[.slice (some ⟨pb,po,none⟩) n c],some (101,1,1))]) (hc:=Try.call143));exact rfl;exact rfl;exact fun D w1 hw1=>edges143_P _ _ n c rfl w1;rintro _ _ ⟨b0,rfl,rfl⟩;simp only [List.cons_append,List.nil_append])|((with_reducible apply u_q);(iterate 4 exact rfl)))|((with_reducible apply t_id);first|(apply t_region;kernel_rfl)))
   all_goals exact ⟨by trivial,b0,trivial,by (repeat' (first|exact FrSub.nil|(apply FrSub.cons;exact rfl))),by (repeat' (first|exact HpSub.refl _|(apply HpSub.consE;(repeat first|exact P0|apply P1);first|exact rfl|(simp;done))))⟩
 rintro b0 -
 try dsimp only
 (with_reducible apply t_block)
 refine t_rangeB b3 (m:=1) (N:=L.length) (α:=Ed L) (β:=Nat×Nat) (ι:=SiZ) (κ:=Unit) (S:=fun ys=>ys=eds L L.length) (Sp:=fun pre=>pre <+: eds L L.length)
   (encs:=fun x=>[.agg ⟨[.int .i64 x.1.2.1.x,.int .i64 x.1.2.1.y]⟩,.agg ⟨[.int .i64 x.1.2.2.x,.int .i64 x.1.2.2.y]⟩])
   (hk:=[(b0,[.slice (some ⟨pb,po,none⟩) n c],some (101,1,1))])
   (siH b3) (fun pre z=>siL z=pre.map edU) (fun x b=>[(b.2,[.int .i64 x.1.2.2.x,.int .i64 x.1.2.2.y],some (111,2,1)),(b.1,[.int .i64 x.1.2.1.x,.int .i64 x.1.2.1.y],some (111,2,1))])
   (fun x b=>[(4,.pointer (some ⟨b.1,0,none⟩)),(5,.pointer (some ⟨b.2,0,none⟩)),(3,.pointer (some ⟨b3,0,none⟩))]) (fun _=>[]) (fun _ _ _=>False) none rfl Try.call172 ?seq rfl ?sub ?ok ?done (fun _ _ _ _ h=>h.elim)
 case sub=>
   simp only [siH,List.cons_append,List.nil_append]
   (repeat' (first|exact HpSub.refl _))
 case seq=>
   intro D w1 hw1
   have hx:Ext w w1:=hw1.ext.ext
   exact edges_stops 2 (by omega) b0 pb po n c L hn _ (.inr (by simp)) (.inl ⟨hpw,List.not_mem_nil⟩) w1 ⟨hr.ext hx,hw1.cellAt (by (repeat first|exact P0|apply P1)) rfl⟩
 case ok=>
   have hcell:∀ (i:SiZ) (W:World) (D:List Nat),Has w ⟨[],D⟩ (siH b3 i++[(b0,[.slice (some ⟨pb,po,none⟩) n c],some (101,1,1))]) W→W.cell? ⟨b3,0,none⟩=some (match i with|none=>.slice none 0 0|some (g,cp,l)=>.slice (some ⟨g,0,none⟩) l.length cp):=by
     intro i W D hw
     rcases i with _|⟨g,cp,l⟩
     · exact (hw.blk (b3,[.slice none 0 0],some (101,1,1)) (by simp [siH])).2.cell rfl
     · exact (hw.blk (b3,[.slice (some ⟨g,0,none⟩) l.length cp],some (101,1,1)) (by simp [siH])).2.cell rfl
   refine ⟨fun _=>rfl,rfl,fun x W=>?_,fun x b i k W D hb hw hns hlk y hy z hz=>?_,fun l' pre x i b W D hi hw hlt hl'=>?_,fun x b=>NoM.some (NoM.some NoM.nil rfl) rfl,fun z=>?_,NoM.some NoM.nil rfl,fun _=>NoM.nil,by simp,fun i W D hw g k cap hc=>?_⟩
   · refine sl0_seq (sl0_region (by kernel_rfl) ?_)
     repeat' (first|((with_reducible apply tl_id);first|(with_reducible apply tl_nil)|((with_reducible apply u_s0);exact rfl;exact rfl)|((with_reducible apply u_s);(iterate 3 exact rfl)))|((with_reducible apply os_id);first|((with_reducible apply os_x);exact rfl)|((with_reducible apply os_storeAgg);(iterate 5 exact rfl)))|((with_reducible apply ox_id);first|((with_reducible apply ox_alloc);exact rfl;intro _))|exact P0|((with_reducible apply Norm.nil);exact rfl)|((with_reducible apply Norm.cons);exact rfl)|exact Nat.le_of_ble_eq_true rfl)
     refine sl0_region (by kernel_rfl) ?_
     repeat' (first|((with_reducible apply tl_id);first|(with_reducible apply tl_nil)|((with_reducible apply u_s0);exact rfl;exact rfl)|((with_reducible apply u_s);(iterate 3 exact rfl)))|((with_reducible apply os_id);first|((with_reducible apply os_x);exact rfl)|((with_reducible apply os_storeAgg);(iterate 5 exact rfl)))|((with_reducible apply ox_id);first|((with_reducible apply ox_alloc);exact rfl;intro _))|exact P0|((with_reducible apply Norm.nil);exact rfl)|((with_reducible apply Norm.cons);exact rfl)|exact Nat.le_of_ble_eq_true rfl)
     rename_i bi bx
     refine ⟨(bi,bx),?_,?_⟩
     · (repeat first|exact FrSub.nil|(apply FrSub.cons;exact rfl))
     · (repeat (first|exact HpSub.refl _|(apply HpSub.consE;(repeat first|exact P0|apply P1);exact rfl)|exact HpSub.nil))
   · have hc:=hcell i W D hw
     have h2:=(hw.blk z hz).2
     have hy2:∃ C,Blk W y.1 C (some (111,2,1)):=by
       have h1:=(hb.blk y hy).2
       simp only [List.mem_cons,List.not_mem_nil,or_false] at hy
       rcases hy with rfl|rfl<;>exact ⟨_,h1⟩
     obtain ⟨C,h1⟩:=hy2
     rcases i with _|⟨g,cp,l⟩
     · simp only [siH,List.cons_append,List.nil_append,List.mem_cons,List.not_mem_nil,or_false] at hz
       rcases hz with rfl|rfl<;>exact Blk.ne h1 (h2:Blk W _ _ (some (101,_,_))) (by decide)
     · simp only [siH,List.cons_append,List.nil_append,List.mem_cons,List.not_mem_nil,or_false] at hz
       rcases hz with rfl|rfl|rfl
       · exact Blk.ne h1 (h2:Blk W _ _ (some (101,_,_))) (by decide)
       · exact hlk g _ _ hc y hy
       · exact Blk.ne h1 (h2:Blk W _ _ (some (101,_,_))) (by decide)
   · obtain ⟨⟨j,a',bb⟩,hxa,hxb⟩:=x
     obtain ⟨bi,bx⟩:=b
     simp only at hxa hxb ⊢
     have hab:=hb a' (List.mem_of_getElem? hxa)
     have hbb:=hb bb (List.mem_of_getElem? hxb)
     have S1:=fun w1=>step_calls a' bb (by unfold Bd at *;omega) (by unfold Bd at *;omega) w1
     obtain ⟨u,hu0⟩:∃ u,Pv.sub bb a'=u:=⟨_,rfl⟩
     rw [hu0] at S1
     have hsn:∀ l:List Pv,l=pre.map edU→l++[u]=(pre++[(⟨(j,a',bb),hxa,hxb⟩:Ed L)]).map edU:=fun l h=>by
       rw [List.map_append,← h,List.map_singleton,← hu0]
       rfl
     rcases i with _|⟨g,cp,l⟩
     · have hpre:([]:List Pv)=pre.map edU:=hi
       simp only [siH,List.cons_append,List.nil_append]
       repeat' (first|((with_reducible apply oq_id);first|((with_reducible apply oq_load);exact rfl;exact rfl)|((with_reducible apply oq_loadAgg);exact rfl;exact rfl)|((with_reducible apply oq_call (hc:=Try.call144));exact rfl;exact rfl;exact fun D w1 hw1=>S1 w1))|((with_reducible apply gx_id);first|(with_reducible apply v_nil)|((with_reducible apply v_q);(iterate 3 exact rfl)))|((with_reducible apply os_id);first|((with_reducible apply os_store);(iterate 4 exact rfl))|((with_reducible apply os_appendNil (hk:=app_ok101));exact rfl;exact rfl))|((with_reducible apply ox_id);first|((with_reducible apply ox_buildSlice2);(iterate 6 exact rfl);intro _))|((with_reducible apply ai_id);first|((with_reducible apply ai_x);(iterate 5 exact rfl))|((with_reducible apply ai_s0);(iterate 4 exact rfl))|((with_reducible apply ai_s);(iterate 5 exact rfl)))|((with_reducible apply rd_id);first|(apply Rd.own;(repeat first|exact P0|apply P1);exact rfl;done))|((with_reducible apply t_id);first|(apply t_mix (id:=6) [0,1,2,3] 3 #[false,false,false,false,false,true,true];kernel_rfl;kernel_rfl;exact rfl)|(with_reducible apply t_block))|with_reducible apply q_blockN|exact P0|(with_reducible apply P1)|exact Rdn.zero|apply Rdn.succ|((with_reducible apply Norm.nil);exact rfl)|((with_reducible apply Norm.cons);exact rfl)|((with_reducible apply al_id);first|(apply al_done;decide +kernel)|(apply al_one 4;decide +kernel)|(apply al_one 5;decide +kernel)|(apply al_one 6;decide +kernel))|exact Nat.le_of_ble_eq_true rfl|exact (rfl:(_:Bool)=true)|(intro _ _;with_reducible apply al_id))
       rename_i gN cN
       all_goals (refine ⟨some (gN,cN,[u]),?_,?_⟩<;>first|exact hsn [] hpre|(simp only [siH];(repeat' (first|exact HpSub.refl _|(apply HpSub.consE;(repeat first|exact P0|apply P1);first|exact rfl|exact co_snoc _ _)|apply HpSub.skipX))))
     · have hpre:l=pre.map edU:=hi
       have hll:l.length<n:=by rw [hpre,List.length_map];omega
       have hfl:(coB Pv.x Pv.y l).length=l.length*2:=co_flat_len l
       simp only [siH,List.cons_append,List.nil_append]
       repeat' (first|((with_reducible apply oq_id);first|((with_reducible apply oq_load);exact rfl;exact rfl)|((with_reducible apply oq_loadAgg);exact rfl;exact rfl)|((with_reducible apply oq_call (hc:=Try.call144));exact rfl;exact rfl;exact fun D w1 hw1=>S1 w1))|((with_reducible apply gx_id);first|(with_reducible apply v_nil)|((with_reducible apply v_q);(iterate 3 exact rfl)))|((with_reducible apply os_id);first|((with_reducible apply os_store);(iterate 4 exact rfl))|((with_reducible apply os_append (hk:=app_ok101));exact rfl;exact rfl;(repeat first|exact P0|apply P1)))|((with_reducible apply ox_id);first|((with_reducible apply ox_buildSlice2);(iterate 6 exact rfl);intro _))|((with_reducible apply ai_id);first|((with_reducible apply ai_x);(iterate 5 exact rfl))|((with_reducible apply ai_s0);(iterate 4 exact rfl))|((with_reducible apply ai_s);(iterate 5 exact rfl)))|((with_reducible apply rd_id);first|(apply Rd.own;(repeat first|exact P0|apply P1);exact rfl;done))|((with_reducible apply t_id);first|(apply t_mix (id:=6) [0,1,2,3] 3 #[false,false,false,false,false,true,true];kernel_rfl;kernel_rfl;exact rfl)|(with_reducible apply t_block))|with_reducible apply q_blockN|exact P0|(with_reducible apply P1)|exact Rdn.zero|apply Rdn.succ|((with_reducible apply Norm.nil);exact rfl)|((with_reducible apply Norm.cons);exact rfl)|((with_reducible apply al_id);first|(apply al_done;decide +kernel)|(apply al_one 4;decide +kernel)|(apply al_one 5;decide +kernel)|(apply al_one 6;decide +kernel))|exact hfl|exact Nat.le_of_ble_eq_true rfl|exact (rfl:(_:Bool)=true)|omega|(intro _ _;with_reducible apply al_id))
       rename_i gN cN
       all_goals (refine ⟨some (gN,cN,l++[u]),?_,?_⟩<;>first|exact hsn l hpre|(simp only [siH,List.length_append,List.length_singleton];(repeat' (first|exact HpSub.refl _|(apply HpSub.consE;(repeat first|exact P0|apply P1);first|exact rfl|exact co_snoc _ _)|apply HpSub.skipX))))
   · rcases z with _|⟨g,cp,l⟩
     · exact NoM.some NoM.nil rfl
     · exact NoM.some (NoM.some NoM.nil rfl) rfl
   · have hc2:=hcell i W D hw
     rw [hc] at hc2
     rcases i with _|⟨g',cp,l⟩
     · cases hc2
     · have e:g=g':=by simpa using congrArg (fun v:Option Value=>match v with|some (.slice (some a) _ _)=>a.block|_=>0) hc2
       rw [e]
       exact (hw.blk (g',coB Pv.x Pv.y l,some (111,2,cp)) (by simp [siH])).2.lt
 case done=>
   rintro xs z rfl hz
   have hst:=eds_steps rg hE L.length (Nat.le_refl _)
   have htk:=List.take_of_length_le (l:=E++F) (i:=L.length) (by rw [hEF];exact Nat.le_refl _)
   rw [htk] at hst
   rcases z with _|⟨g,cp,l⟩
   · exfalso
     have h1:([]:List Pv)=(eds L L.length).map edU:=hz
     have h2:(eds L L.length).map edU=E++F:=hst
     rw [h2] at h1
     rw [← h1,List.length_nil] at hEF
     omega
   · have h1:l=(eds L L.length).map edU:=hz
     have h2:(eds L L.length).map edU=E++F:=hst
     rw [h2] at h1
     subst h1
     have hne:E++F≠[]:=fun e=>by rw [e,List.length_nil] at hEF;omega
     simp only [siH,List.cons_append,List.nil_append]
     repeat' (first|((with_reducible apply oq_id);first|(apply oq_fn;exact rfl;first|exact trivial|(and_intros<;>omega)|omega|skip)|((with_reducible apply oq_load);exact rfl;exact rfl))|((with_reducible apply tl_id);first|(with_reducible apply tl_nil)|((with_reducible apply u_q);(iterate 4 exact rfl)))|((with_reducible apply rd_id);first|(apply Rd.own;(repeat first|exact P0|apply P1);exact rfl;done))|((with_reducible apply t_id);first|(with_reducible apply t_seq)|(apply t_region;kernel_rfl)|(with_reducible apply t_ret))|with_reducible apply q_thenN|with_reducible apply q_blockN|(with_reducible apply end_ret)|exact rvs_nil|(with_reducible apply rvs_cons)|((with_reducible apply rv_tmp);exact rfl))
     all_goals exact ⟨_,.inr ⟨hne,g,cp,rfl,rfl⟩,by (repeat' (first|exact HpSub.refl _|(apply HpSub.consE;(repeat first|exact P0|apply P1);first|exact rfl|(simp;done))|apply HpSub.skipX))⟩
theorem oq_shrE {c:Cx} {F:Fr} {H:Hp} {d:Option Tmp} {ty t t':TypeId} {pos:String} {af:Array Edge} {g:Option (Nat×Bool)} {x y:Operand} {m:Int} {k':IntKind} {a r:Nat} (hx:ev F x=some (.int .u64 m)) (hy:ev F y=some (.int k' 1)) (e:m=(a:Int)) (e2:a / 2=r):OQ c ⟨d,.binOp .shr t x y t',ty,pos,af,g⟩ F H (.int .u64 (r:Nat)):=
 e2 ▸ oq_shr1N hx hy e
theorem sym1_G {α:Type} {fx fy:α→Int} {lt:α→α→Bool} {kf:Nat} (hw:Wo lt) (HK:CmpOk fx fy lt kf) (g cp n a m b:Nat) (x:α) (P V Q:List α) (w:World) (hB:Blk w g (coB fx fy (P++([x]++(V++Q)))) (some (111,2,cp))) (hV:Srt lt V) (ha:P.length=a) (hm:a+1=m) (hb:m+V.length=b) (hn:(P++([x]++(V++Q))).length=n) (hn1:n≤1000000) :
   Calls Try.prog 206 #[.slice (some ⟨g,0,none⟩) n cp,.int .i64 (a:Nat),.int .i64 (m:Nat),.int .i64 (b:Nat),.func (.func kf) #[] #[]] w fun e w'=>e=.returned (.tuple #[])∧ExtM [g] w w'∧Blk w' g (coB fx fy (P++(mrg lt [x] V++Q))) (some (111,2,cp)):=by
 simp only [List.length_append,List.length_cons,List.length_nil] at hn
 have hda:(P++([x]++(V++Q)))[a]?=some x:=by rw [← ha];simp
 refine enterW (c:=cxM [g] w 220) Try.func206 rfl rfl rfl rfl hB ?_
 repeat' (first|((with_reducible apply oq_id);first|((with_reducible apply oq_subE (k:=((m-a:Nat):Int)));exact rfl;exact rfl;omega)|((with_reducible apply oq_eqlT);exact rfl;exact rfl;omega)|(apply oq_fn;exact rfl;first|exact trivial|(and_intros<;>omega)|omega|skip))|((with_reducible apply tl_id);first|(with_reducible apply tl_nil)|((with_reducible apply u_q);(iterate 4 exact rfl)))|((with_reducible apply t_id);first|(with_reducible apply t_seq)|(apply t_region;kernel_rfl)|((with_reducible apply t_condT);exact rfl)|(with_reducible apply t_block))|with_reducible apply q_thenN)
 apply t_loopK (ι:=Nat×Nat) [0,1,2,3,4] (fun z=>[(10,.int .i64 ((m+z.1:Nat):Int)),(11,.int .i64 ((m+z.2:Nat):Int))]) (fun _=>[(g,coB fx fy (P++([x]++(V++Q))),some (111,2,cp))]) (fun z=>z.1≤z.2∧z.2≤V.length∧(z.1=0∨∃ y,V[z.1-1]?=some y∧lt y x=true)∧(z.2=V.length∨∃ y,V[z.2]?=some y∧lt y x=false)) (fun z=>z.2-z.1) ((0,V.length))
 (repeat (first|exact KeepF.nil|(apply KeepF.cons;exact rfl)|apply KeepF.skip))
 (repeat (first|exact FrSub.nil|(apply FrSub.cons;exact rfl)|(apply FrSub.consE;exact rfl;(congr 2;first|omega|(simp only;omega)))))
 (repeat (first|exact HpSub.refl _|(apply HpSub.consE;(repeat first|exact P0|apply P1);exact rfl)|exact HpSub.nil))
 · exact ⟨Nat.zero_le _,Nat.le_refl _,.inl rfl,.inl rfl⟩
 rintro ⟨i,j⟩ ⟨h1,h2,h3,h4⟩
 simp only at h1 h2 h3 h4
 try dsimp only
 by_cases hij:i<j
 · obtain ⟨q,hq⟩:∃ q,q=(i+j) / 2:=⟨_,rfl⟩
   obtain ⟨y,hy⟩:∃ y,V[q]?=some y:=⟨_,List.getElem?_eq_getElem (by omega)⟩
   have hdy:(P++([x]++(V++Q)))[m+q]?=some y:=get_seg2 (by simp only [List.length_cons,List.length_nil];omega) hy
   obtain ⟨D,hD⟩:∃ D,P++([x]++(V++Q))=D:=⟨_,rfl⟩
   rw [hD] at hda hdy ⊢
   obtain ⟨q0,q1⟩:=co_at (fx:=fx) (fy:=fy) hda
   obtain ⟨r0,r1⟩:=co_at (fx:=fx) (fy:=fy) hdy
   obtain ⟨o,HC,ho⟩:=HK.cmp y x
   cases hc:lt y x with
   | true=>
     have HN:o<0:=ho.2 hc
     repeat' (first|((with_reducible apply oq_id);first|((with_reducible apply oq_addE (k:=((m+i+(m+j):Nat):Int)));exact rfl;exact rfl;omega)|((with_reducible apply oq_addE (k:=((m+(q+1):Nat):Int)));exact rfl;exact rfl;omega)|(focus ((with_reducible apply (oq_shrE (a:=m+i+(m+j)) (r:=m+q)));exact rfl;exact rfl;omega;omega))|(focus ((with_reducible apply oq_convU);(iterate 3 exact rfl);(refine ⟨?_,?_⟩<;>omega)))|(focus ((with_reducible apply oq_indexAddrN);(iterate 4 exact rfl);omega))|((with_reducible apply oq_lssT);exact rfl;exact rfl;omega)|(apply oq_fn;exact rfl;first|exact trivial|(and_intros<;>omega)|omega|skip)|((with_reducible apply oq_loadAgg);exact rfl;exact rfl)|((with_reducible apply oq_call (k:=kf) (hc:=HK.call));exact rfl;exact rfl;exact fun D w1 hw1=>HC w1))|((with_reducible apply tl_id);first|(with_reducible apply tl_nil)|((with_reducible apply u_q);(iterate 4 exact rfl)))|((with_reducible apply gx_id);first|(with_reducible apply v_nil)|((with_reducible apply v_q);(iterate 3 exact rfl)))|((with_reducible apply rd_id);first|(apply Rd.own;(repeat first|exact P0|apply P1);with_reducible (first|exact q0|exact q1|exact q2|exact r0|exact r1|exact r2);done))|((with_reducible apply t_id);first|(with_reducible apply t_seq)|(apply t_region;kernel_rfl)|(apply t_drawn;kernel_rfl;decide +kernel;try simp only [List.append_eq,List.cons_append,List.nil_append])|((with_reducible apply t_condT);exact rfl)|(with_reducible apply t_skip)|(with_reducible apply t_block))|with_reducible apply q_thenN|with_reducible apply q_blockN|exact Rdn.zero|apply Rdn.succ)
     all_goals (refine ⟨(q+1,j),(by refine ⟨(by simp only;omega),h2,.inr ⟨y,(by simpa using hy),hc⟩,h4⟩),(by simp only;omega),?_,?_⟩<;>(try simp only [List.cons_append,List.nil_append])<;>(repeat' (first|exact FrSub.nil|(apply FrSub.cons;exact rfl)|exact HpSub.refl _)))
   | false=>
     have HN:¬ o<0:=fun h=>by rw [ho.1 h] at hc;cases hc
     repeat' (first|((with_reducible apply oq_id);first|((with_reducible apply oq_addE (k:=((m+i+(m+j):Nat):Int)));exact rfl;exact rfl;omega)|(focus ((with_reducible apply (oq_shrE (a:=m+i+(m+j)) (r:=m+q)));exact rfl;exact rfl;omega;omega))|(focus ((with_reducible apply oq_convU);(iterate 3 exact rfl);(refine ⟨?_,?_⟩<;>omega)))|(focus ((with_reducible apply oq_indexAddrN);(iterate 4 exact rfl);omega))|((with_reducible apply oq_lssT);exact rfl;exact rfl;omega)|((with_reducible apply oq_lssF);exact rfl;exact rfl;omega)|(apply oq_fn;exact rfl;first|exact trivial|(and_intros<;>omega)|omega|skip)|((with_reducible apply oq_loadAgg);exact rfl;exact rfl)|((with_reducible apply oq_call (k:=kf) (hc:=HK.call));exact rfl;exact rfl;exact fun D w1 hw1=>HC w1))|((with_reducible apply tl_id);first|(with_reducible apply tl_nil)|((with_reducible apply u_q);(iterate 4 exact rfl)))|((with_reducible apply gx_id);first|(with_reducible apply v_nil)|((with_reducible apply v_q);(iterate 3 exact rfl)))|((with_reducible apply rd_id);first|(apply Rd.own;(repeat first|exact P0|apply P1);with_reducible (first|exact q0|exact q1|exact q2|exact r0|exact r1|exact r2);done))|((with_reducible apply t_id);first|(with_reducible apply t_seq)|(apply t_region;kernel_rfl)|(apply t_drawn;kernel_rfl;decide +kernel;try simp only [List.append_eq,List.cons_append,List.nil_append])|((with_reducible apply t_condT);exact rfl)|((with_reducible apply t_condF);exact rfl)|(with_reducible apply t_skip)|(with_reducible apply t_block))|with_reducible apply q_thenN|with_reducible apply q_blockN|exact Rdn.zero|apply Rdn.succ)
     all_goals (refine ⟨(i,q),(by refine ⟨(by simp only;omega),(by simp only;omega),h3,.inr ⟨y,hy,hc⟩⟩),(by simp only;omega),?_,?_⟩<;>(try simp only [List.cons_append,List.nil_append])<;>(repeat' (first|exact FrSub.nil|(apply FrSub.cons;exact rfl)|exact HpSub.refl _)))
 · obtain rfl:i=j:=by omega
   rw [mrg_one hw hV h3 h4,List.append_assoc,List.cons_append]
   repeat' (first|((with_reducible apply oq_id);first|((with_reducible apply oq_lssF);exact rfl;exact rfl;omega)|(apply oq_fn;exact rfl;first|exact trivial|(and_intros<;>omega)|omega|skip))|((with_reducible apply tl_id);first|(with_reducible apply tl_nil)|((with_reducible apply u_q);(iterate 4 exact rfl)))|((with_reducible apply t_id);first|(with_reducible apply t_seq)|(apply t_region;kernel_rfl)|((with_reducible apply t_condF);exact rfl)|(with_reducible apply t_exit)|(with_reducible apply t_block))|with_reducible apply q_thenN|with_reducible apply q_thenE|((with_reducible apply q_blockE);exact rfl))
   apply t_loopK (ι:=Nat) [0,1,2,3,4,10] (fun k=>[(13,.int .i64 ((a+k:Nat):Int))]) (fun k=>[(g,coB fx fy (P++(V.take k++x::(V.drop k++Q))),some (111,2,cp))]) (fun k=>k≤i) (fun k=>i-k) (0)
   (repeat (first|exact KeepF.nil|(apply KeepF.cons;exact rfl)|apply KeepF.skip))
   (repeat (first|exact FrSub.nil|(apply FrSub.cons;exact rfl)|(apply FrSub.consE;exact rfl;(congr 2;first|omega|(simp only;omega)))))
   (repeat (first|exact HpSub.refl _|(apply HpSub.consE;(repeat first|exact P0|apply P1);exact rfl)|exact HpSub.nil))
   · exact Nat.zero_le _
   rintro k hk
   try dsimp only
   by_cases hki:k<i
   · obtain ⟨y,hy⟩:∃ y,V[k]?=some y:=⟨_,List.getElem?_eq_getElem (by omega)⟩
     obtain ⟨hdx,hdy,hst⟩:=mov_step (P:=P) (Q:=Q) (x:=x) hy
     rw [ha] at hdx hdy hst
     obtain ⟨D,hD⟩:∃ D,P++(V.take k++x::(V.drop k++Q))=D:=⟨_,rfl⟩
     rw [hD] at hdx hdy hst ⊢
     have hdy2:(D.set (a+k) y)[a+k+1]?=some y:=by rw [List.getElem?_set_ne (by omega)];exact hdy
     obtain ⟨q0,q1⟩:=co_at (fx:=fx) (fy:=fy) hdx
     obtain ⟨r0,r1⟩:=co_at (fx:=fx) (fy:=fy) hdy
     repeat' (first|((with_reducible apply oq_id);first|((with_reducible apply oq_subE (k:=((m+i-1:Nat):Int)));exact rfl;exact rfl;omega)|((with_reducible apply oq_addE (k:=((a+k+1:Nat):Int)));exact rfl;exact rfl;omega)|(focus ((with_reducible apply oq_indexAddrN);(iterate 4 exact rfl);omega))|((with_reducible apply oq_lssT);exact rfl;exact rfl;omega)|(apply oq_fn;exact rfl;first|exact trivial|(and_intros<;>omega)|omega|skip)|((with_reducible apply oq_loadAgg);exact rfl;exact rfl))|((with_reducible apply tl_id);first|(with_reducible apply tl_nil)|((with_reducible apply u_q);(iterate 4 exact rfl)))|((with_reducible apply gx_id);first|(with_reducible apply v_nil)|((with_reducible apply v_q);(iterate 3 exact rfl)))|((with_reducible apply os_id);first|((with_reducible apply (os_storeCo (fx:=fx) (fy:=fy) y hdx rfl));(iterate 3 exact rfl);(repeat first|exact P0|apply P1))|((with_reducible apply (os_storeCo (fx:=fx) (fy:=fy) x hdy2 hst));(iterate 3 exact rfl);(repeat first|exact P0|apply P1)))|((with_reducible apply ai_id);first|((with_reducible apply ai_q);(iterate 5 exact rfl))|((with_reducible apply ai_n0);(iterate 3 exact rfl)))|((with_reducible apply al_keep);focus (repeat (first|exact HpSub.refl _|(apply HpSub.cons;(repeat first|exact P0|apply P1))|apply HpSub.skipX|exact HpSub.nil)))|((with_reducible apply rd_id);first|(apply Rd.own;(repeat first|exact P0|apply P1);with_reducible (first|exact q0|exact q1|exact q2|exact r0|exact r1|exact r2);done))|((with_reducible apply t_id);first|(apply t_mixZ (id:=11) [0,1,2,3,4,5,6,7,8,10,11,12] 6;kernel_rfl;kernel_rfl;exact rfl)|(with_reducible apply t_seq)|(apply t_region;kernel_rfl)|((with_reducible apply t_condT);exact rfl)|(with_reducible apply t_skip)|(with_reducible apply t_block))|with_reducible apply q_thenN|with_reducible apply q_blockN|exact Rdn.zero|apply Rdn.succ|((with_reducible apply al_id);first|(apply al_done;decide +kernel)|(apply al_one 9;decide +kernel)|(apply al_one 13;decide +kernel)|(apply al_one 14;decide +kernel)|(apply al_one 15;decide +kernel)|(apply al_one 16;decide +kernel)|(apply al_one 17;decide +kernel)|(apply al_two 9 13;decide +kernel)))
     all_goals (refine ⟨(k+1),(by omega),(by omega),?_,?_⟩<;>(try simp only [List.cons_append,List.nil_append])<;>(repeat' (first|exact FrSub.nil|(apply FrSub.cons;exact rfl)|exact HpSub.refl _)))
   · obtain rfl:k=i:=by omega
     repeat' (first|((with_reducible apply oq_id);first|((with_reducible apply oq_subE (k:=((m+k-1:Nat):Int)));exact rfl;exact rfl;omega)|((with_reducible apply oq_lssF);exact rfl;exact rfl;omega)|(apply oq_fn;exact rfl;first|exact trivial|(and_intros<;>omega)|omega|skip))|((with_reducible apply tl_id);first|(with_reducible apply tl_nil)|((with_reducible apply u_q);(iterate 4 exact rfl)))|((with_reducible apply t_id);first|(with_reducible apply t_seq)|(apply t_region;kernel_rfl)|((with_reducible apply t_condF);exact rfl)|(with_reducible apply t_ret)|(with_reducible apply t_exit))|with_reducible apply q_thenN|with_reducible apply q_thenR|with_reducible apply q_thenE|((with_reducible apply q_blockE);exact rfl)|(with_reducible apply end_ret)|exact rvs_nil)
     all_goals exact ⟨rfl,by (repeat (first|exact HpSub.refl _|(apply HpSub.consE;(repeat first|exact P0|apply P1);exact rfl)|exact HpSub.nil))⟩
theorem sym2_G {α:Type} {fx fy:α→Int} {lt:α→α→Bool} {kf:Nat} (hw:Wo lt) (HK:CmpOk fx fy lt kf) (g cp n a m b:Nat) (y:α) (P U Q:List α) (w:World) (hB:Blk w g (coB fx fy (P++(U++([y]++Q)))) (some (111,2,cp))) (hU:Srt lt U) (hU1:U.length≠1) (ha:P.length=a) (hm:a+U.length=m) (hb:m+1=b) (hn:(P++(U++([y]++Q))).length=n) (hn1:n≤1000000) :
   Calls Try.prog 206 #[.slice (some ⟨g,0,none⟩) n cp,.int .i64 (a:Nat),.int .i64 (m:Nat),.int .i64 (b:Nat),.func (.func kf) #[] #[]] w fun e w'=>e=.returned (.tuple #[])∧ExtM [g] w w'∧Blk w' g (coB fx fy (P++(mrg lt U [y]++Q))) (some (111,2,cp)):=by
 simp only [List.length_append,List.length_cons,List.length_nil] at hn
 have hdm:(P++(U++([y]++Q)))[m]?=some y:=by
   have:=get_seg2 (P:=P) (U:=U) (V:=[y]) (R:=Q) (m:=m) (q:=0) (x:=y) (by omega) rfl
   simpa using this
 refine enterW (c:=cxM [g] w 220) Try.func206 rfl rfl rfl rfl hB ?_
 repeat' (first|((with_reducible apply oq_id);first|((with_reducible apply oq_subE (k:=((m-a:Nat):Int)));exact rfl;exact rfl;omega)|((with_reducible apply oq_subE (k:=((b-m:Nat):Int)));exact rfl;exact rfl;omega)|((with_reducible apply oq_eqlT);exact rfl;exact rfl;omega)|((with_reducible apply oq_eqlF);exact rfl;exact rfl;omega)|(apply oq_fn;exact rfl;first|exact trivial|(and_intros<;>omega)|omega|skip))|((with_reducible apply tl_id);first|(with_reducible apply tl_nil)|((with_reducible apply u_q);(iterate 4 exact rfl)))|((with_reducible apply t_id);first|(with_reducible apply t_seq)|(apply t_region;kernel_rfl)|((with_reducible apply t_condT);exact rfl)|((with_reducible apply t_condF);exact rfl)|(with_reducible apply t_skip)|(with_reducible apply t_block))|with_reducible apply q_thenN)
 apply t_loopK (ι:=Nat×Nat) [0,1,2,3,4] (fun z=>[(14,.int .i64 ((a+z.1:Nat):Int)),(15,.int .i64 ((a+z.2:Nat):Int))]) (fun _=>[(g,coB fx fy (P++(U++([y]++Q))),some (111,2,cp))]) (fun z=>z.1≤z.2∧z.2≤U.length∧(z.1=0∨∃ x,U[z.1-1]?=some x∧lt y x=false)∧(z.2=U.length∨∃ x,U[z.2]?=some x∧lt y x=true)) (fun z=>z.2-z.1) ((0,U.length))
 (repeat (first|exact KeepF.nil|(apply KeepF.cons;exact rfl)|apply KeepF.skip))
 (repeat (first|exact FrSub.nil|(apply FrSub.cons;exact rfl)|(apply FrSub.consE;exact rfl;(congr 2;first|omega|(simp only;omega)))))
 (repeat (first|exact HpSub.refl _|(apply HpSub.consE;(repeat first|exact P0|apply P1);exact rfl)|exact HpSub.nil))
 · exact ⟨Nat.zero_le _,Nat.le_refl _,.inl rfl,.inl rfl⟩
 rintro ⟨i,j⟩ ⟨h1,h2,h3,h4⟩
 simp only at h1 h2 h3 h4
 try dsimp only
 by_cases hij:i<j
 · obtain ⟨q,hq⟩:∃ q,q=(i+j) / 2:=⟨_,rfl⟩
   obtain ⟨x,hx⟩:∃ x,U[q]?=some x:=⟨_,List.getElem?_eq_getElem (by omega)⟩
   have hdx:(P++(U++([y]++Q)))[a+q]?=some x:=get_seg ha hx
   obtain ⟨D,hD⟩:∃ D,P++(U++([y]++Q))=D:=⟨_,rfl⟩
   rw [hD] at hdm hdx ⊢
   obtain ⟨q0,q1⟩:=co_at (fx:=fx) (fy:=fy) hdm
   obtain ⟨r0,r1⟩:=co_at (fx:=fx) (fy:=fy) hdx
   obtain ⟨o,HC,ho⟩:=HK.cmp y x
   cases hc:lt y x with
   | true=>
     have HN:o<0:=ho.2 hc
     repeat' (first|((with_reducible apply oq_id);first|((with_reducible apply oq_addE (k:=((a+i+(a+j):Nat):Int)));exact rfl;exact rfl;omega)|(focus ((with_reducible apply (oq_shrE (a:=a+i+(a+j)) (r:=a+q)));exact rfl;exact rfl;omega;omega))|(focus ((with_reducible apply oq_convU);(iterate 3 exact rfl);(refine ⟨?_,?_⟩<;>omega)))|(focus ((with_reducible apply oq_indexAddrN);(iterate 4 exact rfl);omega))|((with_reducible apply oq_lssT);exact rfl;exact rfl;omega)|(apply oq_fn;exact rfl;first|exact trivial|(and_intros<;>omega)|omega|skip)|((with_reducible apply oq_loadAgg);exact rfl;exact rfl)|((with_reducible apply oq_call (k:=kf) (hc:=HK.call));exact rfl;exact rfl;exact fun D w1 hw1=>HC w1))|((with_reducible apply tl_id);first|(with_reducible apply tl_nil)|((with_reducible apply u_q);(iterate 4 exact rfl)))|((with_reducible apply gx_id);first|(with_reducible apply v_nil)|((with_reducible apply v_q);(iterate 3 exact rfl)))|((with_reducible apply rd_id);first|(apply Rd.own;(repeat first|exact P0|apply P1);with_reducible (first|exact q0|exact q1|exact q2|exact r0|exact r1|exact r2);done))|((with_reducible apply t_id);first|(with_reducible apply t_seq)|(apply t_region;kernel_rfl)|(apply t_drawn;kernel_rfl;decide +kernel;try simp only [List.append_eq,List.cons_append,List.nil_append])|((with_reducible apply t_condT);exact rfl)|((with_reducible apply t_condF);exact rfl)|(with_reducible apply t_skip)|(with_reducible apply t_block))|with_reducible apply q_thenN|with_reducible apply q_blockN|exact Rdn.zero|apply Rdn.succ)
     all_goals (refine ⟨(i,q),(by refine ⟨(by simp only;omega),(by simp only;omega),h3,.inr ⟨x,hx,hc⟩⟩),(by simp only;omega),?_,?_⟩<;>(try simp only [List.cons_append,List.nil_append])<;>(repeat' (first|exact FrSub.nil|(apply FrSub.cons;exact rfl)|exact HpSub.refl _)))
   | false=>
     have HN:¬ o<0:=fun h=>by rw [ho.1 h] at hc;cases hc
     repeat' (first|((with_reducible apply oq_id);first|((with_reducible apply oq_addE (k:=((a+i+(a+j):Nat):Int)));exact rfl;exact rfl;omega)|((with_reducible apply oq_addE (k:=((a+(q+1):Nat):Int)));exact rfl;exact rfl;omega)|(focus ((with_reducible apply (oq_shrE (a:=a+i+(a+j)) (r:=a+q)));exact rfl;exact rfl;omega;omega))|(focus ((with_reducible apply oq_convU);(iterate 3 exact rfl);(refine ⟨?_,?_⟩<;>omega)))|(focus ((with_reducible apply oq_indexAddrN);(iterate 4 exact rfl);omega))|((with_reducible apply oq_lssT);exact rfl;exact rfl;omega)|((with_reducible apply oq_lssF);exact rfl;exact rfl;omega)|(apply oq_fn;exact rfl;first|exact trivial|(and_intros<;>omega)|omega|skip)|((with_reducible apply oq_loadAgg);exact rfl;exact rfl)|((with_reducible apply oq_call (k:=kf) (hc:=HK.call));exact rfl;exact rfl;exact fun D w1 hw1=>HC w1))|((with_reducible apply tl_id);first|(with_reducible apply tl_nil)|((with_reducible apply u_q);(iterate 4 exact rfl)))|((with_reducible apply gx_id);first|(with_reducible apply v_nil)|((with_reducible apply v_q);(iterate 3 exact rfl)))|((with_reducible apply rd_id);first|(apply Rd.own;(repeat first|exact P0|apply P1);with_reducible (first|exact q0|exact q1|exact q2|exact r0|exact r1|exact r2);done))|((with_reducible apply t_id);first|(with_reducible apply t_seq)|(apply t_region;kernel_rfl)|(apply t_drawn;kernel_rfl;decide +kernel;try simp only [List.append_eq,List.cons_append,List.nil_append])|((with_reducible apply t_condT);exact rfl)|(with_reducible apply t_skip)|(with_reducible apply t_block))|with_reducible apply q_thenN|with_reducible apply q_blockN|exact Rdn.zero|apply Rdn.succ)
     all_goals (refine ⟨(q+1,j),(by refine ⟨(by simp only;omega),h2,.inr ⟨x,(by simpa using hx),hc⟩,h4⟩),(by simp only;omega),?_,?_⟩<;>(try simp only [List.cons_append,List.nil_append])<;>(repeat' (first|exact FrSub.nil|(apply FrSub.cons;exact rfl)|exact HpSub.refl _)))
 · obtain rfl:i=j:=by omega
   rw [mrg_last hw h2 hU h3 h4,List.append_assoc,List.cons_append]
   have h0e:coB fx fy (P++(U++([y]++Q)))=coB fx fy (P++(U.take U.length++y::(U.drop U.length++Q))):=by
     rw [List.take_of_length_le (Nat.le_refl _),List.drop_of_length_le (Nat.le_refl _)];rfl
   repeat' (first|((with_reducible apply oq_id);first|((with_reducible apply oq_lssF);exact rfl;exact rfl;omega)|(apply oq_fn;exact rfl;first|exact trivial|(and_intros<;>omega)|omega|skip))|((with_reducible apply tl_id);first|(with_reducible apply tl_nil)|((with_reducible apply u_q);(iterate 4 exact rfl)))|((with_reducible apply t_id);first|(with_reducible apply t_seq)|(apply t_region;kernel_rfl)|((with_reducible apply t_condF);exact rfl)|(with_reducible apply t_exit)|(with_reducible apply t_block))|with_reducible apply q_thenN|with_reducible apply q_thenE|((with_reducible apply q_blockE);exact rfl))
   apply t_loopK (ι:=Nat) [0,1,2,3,4,14] (fun q=>[(17,.int .i64 ((a+q:Nat):Int))]) (fun q=>[(g,coB fx fy (P++(U.take q++y::(U.drop q++Q))),some (111,2,cp))]) (fun q=>i≤q∧q≤U.length) (fun q=>q) (U.length)
   (repeat (first|exact KeepF.nil|(apply KeepF.cons;exact rfl)|apply KeepF.skip))
   (repeat (first|exact FrSub.nil|(apply FrSub.cons;exact rfl)|(apply FrSub.consE;exact rfl;(congr 2;first|omega|(simp only;omega)))))
   (repeat (first|exact HpSub.refl _|(apply HpSub.consE;(repeat first|exact P0|apply P1);(first|exact rfl|exact h0e))|exact HpSub.nil))
   · exact ⟨h2,Nat.le_refl _⟩
   rintro q ⟨hiq,hqU⟩
   try dsimp only
   by_cases hki:i<q
   · obtain ⟨k,rfl⟩:∃ k,q=k+1:=⟨q-1,by omega⟩
     obtain ⟨x,hx⟩:∃ x,U[k]?=some x:=⟨_,List.getElem?_eq_getElem (by omega)⟩
     obtain ⟨hdy,hdx,hst⟩:=mov_back (P:=P) (Q:=Q) (y:=y) hx
     rw [ha] at hdx hdy hst
     obtain ⟨D,hD⟩:∃ D,P++(U.take (k+1)++y::(U.drop (k+1)++Q))=D:=⟨_,rfl⟩
     rw [hD] at hdx hdy hst ⊢
     rw [show a+(k+1)=a+k+1 by omega]
     have hdx2:(D.set (a+k+1) x)[a+k]?=some x:=by rw [List.getElem?_set_ne (by omega)];exact hdx
     obtain ⟨q0,q1⟩:=co_at (fx:=fx) (fy:=fy) hdx
     obtain ⟨r0,r1⟩:=co_at (fx:=fx) (fy:=fy) hdy
     repeat' (first|((with_reducible apply oq_id);first|((with_reducible apply oq_subE (k:=((a+k:Nat):Int)));exact rfl;exact rfl;omega)|(focus ((with_reducible apply oq_indexAddrN);(iterate 4 exact rfl);omega))|((with_reducible apply oq_gtrT);exact rfl;exact rfl;omega)|(apply oq_fn;exact rfl;first|exact trivial|(and_intros<;>omega)|omega|skip)|((with_reducible apply oq_loadAgg);exact rfl;exact rfl))|((with_reducible apply tl_id);first|(with_reducible apply tl_nil)|((with_reducible apply u_q);(iterate 4 exact rfl)))|((with_reducible apply gx_id);first|(with_reducible apply v_nil)|((with_reducible apply v_q);(iterate 3 exact rfl)))|((with_reducible apply os_id);first|((with_reducible apply (os_storeCo (fx:=fx) (fy:=fy) x hdy rfl));(iterate 3 exact rfl);(repeat first|exact P0|apply P1))|((with_reducible apply (os_storeCo (fx:=fx) (fy:=fy) y hdx2 hst));(iterate 3 exact rfl);(repeat first|exact P0|apply P1)))|((with_reducible apply ai_id);first|((with_reducible apply ai_q);(iterate 5 exact rfl))|((with_reducible apply ai_n0);(iterate 3 exact rfl)))|((with_reducible apply al_keep);focus (repeat (first|exact HpSub.refl _|(apply HpSub.cons;(repeat first|exact P0|apply P1))|apply HpSub.skipX|exact HpSub.nil)))|((with_reducible apply rd_id);first|(apply Rd.own;(repeat first|exact P0|apply P1);with_reducible (first|exact q0|exact q1|exact q2|exact r0|exact r1|exact r2);done))|((with_reducible apply t_id);first|(apply t_mixZ (id:=23) [0,1,2,3,4,5,6,7,8,10,11,12] 6;kernel_rfl;kernel_rfl;exact rfl)|(with_reducible apply t_seq)|(apply t_region;kernel_rfl)|((with_reducible apply t_condT);exact rfl)|(with_reducible apply t_skip)|(with_reducible apply t_block))|with_reducible apply q_thenN|with_reducible apply q_blockN|exact Rdn.zero|apply Rdn.succ|((with_reducible apply al_id);first|(apply al_done;decide +kernel)|(apply al_one 9;decide +kernel)|(apply al_one 13;decide +kernel)|(apply al_one 14;decide +kernel)|(apply al_one 15;decide +kernel)|(apply al_one 16;decide +kernel)|(apply al_one 17;decide +kernel)|(apply al_two 9 13;decide +kernel)))
     all_goals (refine ⟨k,(by omega),(by omega),?_,?_⟩<;>(try simp only [List.cons_append,List.nil_append])<;>(repeat' (first|exact FrSub.nil|(apply FrSub.cons;exact rfl)|exact HpSub.refl _)))
   · obtain rfl:q=i:=by omega
     repeat' (first|((with_reducible apply oq_id);first|((with_reducible apply oq_gtrF);exact rfl;exact rfl;omega)|(apply oq_fn;exact rfl;first|exact trivial|(and_intros<;>omega)|omega|skip))|((with_reducible apply tl_id);first|(with_reducible apply tl_nil)|((with_reducible apply u_q);(iterate 4 exact rfl)))|((with_reducible apply t_id);first|(with_reducible apply t_seq)|(apply t_region;kernel_rfl)|((with_reducible apply t_condF);exact rfl)|(with_reducible apply t_ret)|(with_reducible apply t_exit))|with_reducible apply q_thenN|with_reducible apply q_thenR|with_reducible apply q_thenE|((with_reducible apply q_blockE);exact rfl)|(with_reducible apply end_ret)|exact rvs_nil)
     all_goals exact ⟨rfl,by (repeat (first|exact HpSub.refl _|(apply HpSub.consE;(repeat first|exact P0|apply P1);exact rfl)|exact HpSub.nil))⟩
theorem sym_G {α:Type} {fx fy:α→Int} {lt:α→α→Bool} {kf:Nat} (hw:Wo lt) (HK:CmpOk fx fy lt kf):∀ (s:Nat) (g cp n a m b:Nat) (P U V Q:List α) (w:World),U.length+V.length=s→Blk w g (coB fx fy (P++(U++(V++Q)))) (some (111,2,cp))→Srt lt U→Srt lt V→0<U.length→0<V.length→P.length=a→a+U.length=m→m+V.length=b→(P++(U++(V++Q))).length=n→n≤1000000 →
   Calls Try.prog 206 #[.slice (some ⟨g,0,none⟩) n cp,.int .i64 (a:Nat),.int .i64 (m:Nat),.int .i64 (b:Nat),.func (.func kf) #[] #[]] w fun e w'=>e=.returned (.tuple #[])∧ExtM [g] w w'∧Blk w' g (coB fx fy (P++(mrg lt U V++Q))) (some (111,2,cp)):=by
 intro s
 induction s using Nat.strongRecOn with
 | _ s ih=>
 intro g cp n a m b P U V Q w hs hB hU hV hU0 hV0 ha hm hb hn hn1
 by_cases hU1:U.length=1
 · obtain ⟨x,rfl⟩:∃ x,U=[x]:=List.length_eq_one_iff.1 hU1
   exact sym1_G hw HK g cp n a m b x P V Q w hB hV ha (by simpa using hm) hb hn hn1
 by_cases hV1:V.length=1
 · obtain ⟨y,rfl⟩:∃ y,V=[y]:=List.length_eq_one_iff.1 hV1
   exact sym2_G hw HK g cp n a m b y P U Q w hB hU hU1 ha hm (by simpa using hb) hn hn1
 have hn0:=hn
 simp only [List.length_append] at hn
 obtain ⟨h,hh⟩:∃ h,h=(U.length+V.length) / 2:=⟨_,rfl⟩
 refine enterW (c:=cxM [g] w 220) Try.func206 rfl rfl rfl rfl hB ?_
 refine t_cut (ι:=Unit) (fun _=>[(0,.slice (some ⟨g,0,none⟩) n cp),(1,.int .i64 (a:Nat)),(2,.int .i64 (m:Nat)),(3,.int .i64 (b:Nat)),(4,.func (.func kf) #[] #[])]) (fun _=>[(g,coB fx fy (P++(U++(V++Q))),some (111,2,cp))]) (fun _=>True) ?_ ?_
 · repeat' (first|((with_reducible apply oq_id);first|((with_reducible apply oq_subE (k:=((m-a:Nat):Int)));exact rfl;exact rfl;omega)|((with_reducible apply oq_eqlF);exact rfl;exact rfl;omega)|(apply oq_fn;exact rfl;first|exact trivial|(and_intros<;>omega)|omega|skip))|((with_reducible apply tl_id);first|(with_reducible apply tl_nil)|((with_reducible apply u_q);(iterate 4 exact rfl)))|((with_reducible apply t_id);first|(with_reducible apply t_seq)|(apply t_region;kernel_rfl)|((with_reducible apply t_condF);exact rfl)|(with_reducible apply t_skip))|with_reducible apply q_thenN)
   all_goals exact ⟨rfl,(),trivial,by (repeat first|exact FrSub.nil|(apply FrSub.cons;exact rfl)),by (repeat (first|exact HpSub.refl _|(apply HpSub.consE;(repeat first|exact P0|apply P1);exact rfl)|exact HpSub.nil))⟩
 rintro ⟨⟩ -
 refine t_cut (ι:=Unit) (fun _=>[(0,.slice (some ⟨g,0,none⟩) n cp),(1,.int .i64 (a:Nat)),(2,.int .i64 (m:Nat)),(3,.int .i64 (b:Nat)),(4,.func (.func kf) #[] #[])]) (fun _=>[(g,coB fx fy (P++(U++(V++Q))),some (111,2,cp))]) (fun _=>True) ?_ ?_
 · repeat' (first|((with_reducible apply oq_id);first|((with_reducible apply oq_subE (k:=((b-m:Nat):Int)));exact rfl;exact rfl;omega)|((with_reducible apply oq_eqlF);exact rfl;exact rfl;omega)|(apply oq_fn;exact rfl;first|exact trivial|(and_intros<;>omega)|omega|skip))|((with_reducible apply tl_id);first|(with_reducible apply tl_nil)|((with_reducible apply u_q);(iterate 4 exact rfl)))|((with_reducible apply t_id);first|(with_reducible apply t_seq)|(apply t_region;kernel_rfl)|((with_reducible apply t_condF);exact rfl)|(with_reducible apply t_skip))|with_reducible apply q_thenN)
   all_goals exact ⟨rfl,(),trivial,by (repeat first|exact FrSub.nil|(apply FrSub.cons;exact rfl)),by (repeat (first|exact HpSub.refl _|(apply HpSub.consE;(repeat first|exact P0|apply P1);exact rfl)|exact HpSub.nil))⟩
 rintro ⟨⟩ -
 refine t_cut (ι:=Unit) (fun _=>[(0,.slice (some ⟨g,0,none⟩) n cp),(1,.int .i64 (a:Nat)),(2,.int .i64 (m:Nat)),(3,.int .i64 (b:Nat)),(4,.func (.func kf) #[] #[]),(18,.int .i64 (a+h:Nat))]) (fun _=>[(g,coB fx fy (P++(U++(V++Q))),some (111,2,cp))]) (fun _=>True) ?_ ?_
 · repeat' (first|((with_reducible apply oq_id);first|((with_reducible apply oq_addE (k:=((a+b:Nat):Int)));exact rfl;exact rfl;omega)|(focus ((with_reducible apply (oq_shrE (a:=a+b) (r:=a+h)));exact rfl;exact rfl;omega;omega))|(focus ((with_reducible apply oq_convU);(iterate 3 exact rfl);(refine ⟨?_,?_⟩<;>omega)))|(apply oq_fn;exact rfl;first|exact trivial|(and_intros<;>omega)|omega|skip))|((with_reducible apply tl_id);first|(with_reducible apply tl_nil)|((with_reducible apply u_q);(iterate 4 exact rfl)))|((with_reducible apply t_id);first|(apply t_region;kernel_rfl)))
   all_goals exact ⟨rfl,(),trivial,by (repeat first|exact FrSub.nil|(apply FrSub.cons;exact rfl)),by (repeat (first|exact HpSub.refl _|(apply HpSub.consE;(repeat first|exact P0|apply P1);exact rfl)|exact HpSub.nil))⟩
 rintro ⟨⟩ -
 refine t_cut (ι:=Unit) (fun _=>[(0,.slice (some ⟨g,0,none⟩) n cp),(1,.int .i64 (a:Nat)),(2,.int .i64 (m:Nat)),(3,.int .i64 (b:Nat)),(4,.func (.func kf) #[] #[]),(18,.int .i64 (a+h:Nat)),(19,.int .i64 (a+h+m:Nat))]) (fun _=>[(g,coB fx fy (P++(U++(V++Q))),some (111,2,cp))]) (fun _=>True) ?_ ?_
 · repeat' (first|((with_reducible apply oq_id);first|((with_reducible apply oq_addE (k:=((a+h+m:Nat):Int)));exact rfl;exact rfl;omega)|(apply oq_fn;exact rfl;first|exact trivial|(and_intros<;>omega)|omega|skip))|((with_reducible apply tl_id);first|(with_reducible apply tl_nil)|((with_reducible apply u_q);(iterate 4 exact rfl)))|((with_reducible apply t_id);first|(apply t_region;kernel_rfl)))
   all_goals exact ⟨rfl,(),trivial,by (repeat first|exact FrSub.nil|(apply FrSub.cons;exact rfl)),by (repeat (first|exact HpSub.refl _|(apply HpSub.consE;(repeat first|exact P0|apply P1);exact rfl)|exact HpSub.nil))⟩
 rintro ⟨⟩ -
 refine t_cut (ι:=Unit) (fun _=>[(0,.slice (some ⟨g,0,none⟩) n cp),(1,.int .i64 (a:Nat)),(2,.int .i64 (m:Nat)),(3,.int .i64 (b:Nat)),(4,.func (.func kf) #[] #[]),(18,.int .i64 (a+h:Nat)),(19,.int .i64 (a+h+m:Nat))]) (fun _=>[(g,coB fx fy (P++(U++(V++Q))),some (111,2,cp))]) (fun _=>True) ?_ ?_
 · repeat' (first|((with_reducible apply oq_id);first|(apply oq_fn;exact rfl;first|exact trivial|(and_intros<;>omega)|omega|skip))|((with_reducible apply tl_id);first|(with_reducible apply tl_nil)|((with_reducible apply u_q);(iterate 4 exact rfl)))|((with_reducible apply t_id);first|(apply t_region;kernel_rfl)))
   all_goals exact ⟨rfl,(),trivial,by (repeat first|exact FrSub.nil|(apply FrSub.cons;exact rfl)),by (repeat (first|exact HpSub.refl _|(apply HpSub.consE;(repeat first|exact P0|apply P1);exact rfl)|exact HpSub.nil))⟩
 rintro ⟨⟩ -
 obtain ⟨lo,hi,hlo,hhi,hlh,hhU,hhh,hh3,hcase⟩:∃ lo hi:Nat,(lo=0∨V.length+lo=h)∧(hi=h∨hi=U.length)∧lo≤hi∧hi≤U.length∧hi≤h∧h≤V.length+lo∧((h<U.length∧V.length+lo=h∧hi=h)∨(U.length≤h∧lo=0∧hi=U.length)):=by
   by_cases hc:h<U.length
   · exact ⟨h-V.length,h,by omega,by omega,by omega,by omega,by omega,by omega,by omega⟩
   · exact ⟨0,U.length,by omega,by omega,by omega,by omega,by omega,by omega,by omega⟩
 refine t_cut (ι:=Unit) (fun _=>[(0,.slice (some ⟨g,0,none⟩) n cp),(1,.int .i64 (a:Nat)),(2,.int .i64 (m:Nat)),(3,.int .i64 (b:Nat)),(4,.func (.func kf) #[] #[]),(18,.int .i64 (a+h:Nat)),(19,.int .i64 (a+h+m:Nat)),(20,.int .i64 (a+lo:Nat)),(21,.int .i64 (a+hi:Nat))]) (fun _=>[(g,coB fx fy (P++(U++(V++Q))),some (111,2,cp))]) (fun _=>True) ?_ ?_
 · rcases hcase with ⟨c1,c2,c3⟩|⟨c1,c2,c3⟩
   · repeat' (first|((with_reducible apply oq_id);first|((with_reducible apply oq_subE (k:=((a+lo:Nat):Int)));exact rfl;exact rfl;omega)|((with_reducible apply oq_gtrT);exact rfl;exact rfl;omega)|(apply oq_fn;exact rfl;first|exact trivial|(and_intros<;>omega)|omega|skip))|((with_reducible apply tl_id);first|(with_reducible apply tl_nil)|((with_reducible apply u_q);(iterate 4 exact rfl)))|((with_reducible apply t_id);first|(with_reducible apply t_seq)|(apply t_region;kernel_rfl)|((with_reducible apply t_condT);exact rfl))|with_reducible apply q_thenN)
     all_goals exact ⟨rfl,(),trivial,by (repeat (first|exact FrSub.nil|(apply FrSub.cons;exact rfl)|(apply FrSub.consE;exact rfl;(congr 2;first|omega|(simp only;omega))))),by (repeat (first|exact HpSub.refl _|(apply HpSub.consE;(repeat first|exact P0|apply P1);exact rfl)|exact HpSub.nil))⟩
   · repeat' (first|((with_reducible apply oq_id);first|((with_reducible apply oq_gtrF);exact rfl;exact rfl;omega)|(apply oq_fn;exact rfl;first|exact trivial|(and_intros<;>omega)|omega|skip))|((with_reducible apply tl_id);first|(with_reducible apply tl_nil)|((with_reducible apply u_q);(iterate 4 exact rfl)))|((with_reducible apply t_id);first|(with_reducible apply t_seq)|(apply t_region;kernel_rfl)|((with_reducible apply t_condF);exact rfl))|with_reducible apply q_thenN)
     all_goals exact ⟨rfl,(),trivial,by (repeat (first|exact FrSub.nil|(apply FrSub.cons;exact rfl)|(apply FrSub.consE;exact rfl;(congr 2;first|omega|(simp only;omega))))),by (repeat (first|exact HpSub.refl _|(apply HpSub.consE;(repeat first|exact P0|apply P1);exact rfl)|exact HpSub.nil))⟩
 rintro ⟨⟩ -
 refine t_cut (ι:=Unit) (fun _=>[(0,.slice (some ⟨g,0,none⟩) n cp),(1,.int .i64 (a:Nat)),(2,.int .i64 (m:Nat)),(3,.int .i64 (b:Nat)),(4,.func (.func kf) #[] #[]),(18,.int .i64 (a+h:Nat)),(19,.int .i64 (a+h+m:Nat)),(20,.int .i64 (a+lo:Nat)),(21,.int .i64 (a+hi:Nat)),(22,.int .i64 (a+h+m-1:Nat))]) (fun _=>[(g,coB fx fy (P++(U++(V++Q))),some (111,2,cp))]) (fun _=>True) ?_ ?_
 · repeat' (first|((with_reducible apply oq_id);first|((with_reducible apply oq_subE (k:=((a+h+m-1:Nat):Int)));exact rfl;exact rfl;omega)|(apply oq_fn;exact rfl;first|exact trivial|(and_intros<;>omega)|omega|skip))|((with_reducible apply tl_id);first|(with_reducible apply tl_nil)|((with_reducible apply u_q);(iterate 4 exact rfl)))|((with_reducible apply t_id);first|(apply t_region;kernel_rfl)))
   all_goals exact ⟨rfl,(),trivial,by (repeat first|exact FrSub.nil|(apply FrSub.cons;exact rfl)),by (repeat (first|exact HpSub.refl _|(apply HpSub.consE;(repeat first|exact P0|apply P1);exact rfl)|exact HpSub.nil))⟩
 rintro ⟨⟩ -
 refine t_cut (ι:=Nat) (fun i=>[(0,.slice (some ⟨g,0,none⟩) n cp),(1,.int .i64 (a:Nat)),(2,.int .i64 (m:Nat)),(3,.int .i64 (b:Nat)),(4,.func (.func kf) #[] #[]),(18,.int .i64 (a+h:Nat)),(19,.int .i64 (a+h+m:Nat)),(20,.int .i64 (a+i:Nat))]) (fun _=>[(g,coB fx fy (P++(U++(V++Q))),some (111,2,cp))]) (fun i=>lo≤i∧i≤hi∧mrg lt U V=mrg lt (U.take i) (V.take (h-i))++mrg lt (U.drop i) (V.drop (h-i))) ?_ ?_
 · repeat' (first|((with_reducible apply t_id);first|(with_reducible apply t_block)))
   apply t_loopK (ι:=Nat×Nat) [0,1,2,3,4,18,19,22] (fun z=>[(20,.int .i64 ((a+z.1:Nat):Int)),(21,.int .i64 ((a+z.2:Nat):Int))]) (fun _=>[(g,coB fx fy (P++(U++(V++Q))),some (111,2,cp))]) (fun z=>lo≤z.1∧z.1≤z.2∧z.2≤hi∧(z.1=lo∨∃ x y,U[z.1-1]?=some x∧V[h-z.1]?=some y∧lt y x=false)∧(z.2=hi∨∃ x y,U[z.2]?=some x∧V[h-1-z.2]?=some y∧lt y x=true)) (fun z=>z.2-z.1) ((lo,hi))
   (repeat (first|exact KeepF.nil|(apply KeepF.cons;exact rfl)|apply KeepF.skip))
   (repeat (first|exact FrSub.nil|(apply FrSub.cons;exact rfl)|(apply FrSub.consE;exact rfl;(congr 2;first|omega|(simp only;omega)))))
   (repeat (first|exact HpSub.refl _|(apply HpSub.consE;(repeat first|exact P0|apply P1);exact rfl)|exact HpSub.nil))
   · exact ⟨Nat.le_refl _,hlh,Nat.le_refl _,.inl rfl,.inl rfl⟩
   rintro ⟨i,j⟩ ⟨h0,h1,h2,h3,h4⟩
   simp only at h0 h1 h2 h3 h4
   try dsimp only
   by_cases hij:i<j
   · obtain ⟨q,hq⟩:∃ q,q=(i+j) / 2:=⟨_,rfl⟩
     obtain ⟨x,hx⟩:∃ x,U[q]?=some x:=⟨_,List.getElem?_eq_getElem (by omega)⟩
     obtain ⟨y,hy⟩:∃ y,V[h-1-q]?=some y:=⟨_,List.getElem?_eq_getElem (by omega)⟩
     have hdx:(P++(U++(V++Q)))[a+q]?=some x:=get_seg ha hx
     have hdy:(P++(U++(V++Q)))[m+(h-1-q)]?=some y:=get_seg2 (by omega) hy
     obtain ⟨D,hD⟩:∃ D,P++(U++(V++Q))=D:=⟨_,rfl⟩
     rw [hD] at hdx hdy ⊢
     obtain ⟨q0,q1⟩:=co_at (fx:=fx) (fy:=fy) hdx
     obtain ⟨r0,r1⟩:=co_at (fx:=fx) (fy:=fy) hdy
     obtain ⟨o,HC,ho⟩:=HK.cmp y x
     cases hc:lt y x with
     | true=>
       have HN:o<0:=ho.2 hc
       repeat' (first|((with_reducible apply oq_id);first|((with_reducible apply oq_addE (k:=((a+i+(a+j):Nat):Int)));exact rfl;exact rfl;omega)|(focus ((with_reducible apply (oq_shrE (a:=a+i+(a+j)) (r:=a+q)));exact rfl;exact rfl;omega;omega))|((with_reducible apply oq_subE (k:=((m+(h-1-q):Nat):Int)));exact rfl;exact rfl;omega)|(focus ((with_reducible apply oq_convU);(iterate 3 exact rfl);(refine ⟨?_,?_⟩<;>omega)))|(focus ((with_reducible apply oq_indexAddrN);(iterate 4 exact rfl);omega))|((with_reducible apply oq_lssT);exact rfl;exact rfl;omega)|(apply oq_fn;exact rfl;first|exact trivial|(and_intros<;>omega)|omega|skip)|((with_reducible apply oq_loadAgg);exact rfl;exact rfl)|((with_reducible apply oq_call (k:=kf) (hc:=HK.call));exact rfl;exact rfl;exact fun D w1 hw1=>HC w1))|((with_reducible apply tl_id);first|(with_reducible apply tl_nil)|((with_reducible apply u_q);(iterate 4 exact rfl)))|((with_reducible apply gx_id);first|(with_reducible apply v_nil)|((with_reducible apply v_q);(iterate 3 exact rfl)))|((with_reducible apply rd_id);first|(apply Rd.own;(repeat first|exact P0|apply P1);with_reducible (first|exact q0|exact q1|exact q2|exact r0|exact r1|exact r2);done))|((with_reducible apply t_id);first|(with_reducible apply t_seq)|(apply t_region;kernel_rfl)|(apply t_drawn;kernel_rfl;decide +kernel;try simp only [List.append_eq,List.cons_append,List.nil_append])|((with_reducible apply t_condT);exact rfl)|((with_reducible apply t_condF);exact rfl)|(with_reducible apply t_skip)|(with_reducible apply t_block))|with_reducible apply q_thenN|with_reducible apply q_blockN|exact Rdn.zero|apply Rdn.succ)
       all_goals (refine ⟨(i,q),(by refine ⟨h0,(by simp only;omega),(by simp only;omega),h3,.inr ⟨x,y,hx,hy,hc⟩⟩),(by simp only;omega),?_,?_⟩<;>(try simp only [List.cons_append,List.nil_append])<;>(repeat' (first|exact FrSub.nil|(apply FrSub.cons;exact rfl)|exact HpSub.refl _)))
     | false=>
       have HN:¬ o<0:=fun h=>by rw [ho.1 h] at hc;cases hc
       repeat' (first|((with_reducible apply oq_id);first|((with_reducible apply oq_addE (k:=((a+i+(a+j):Nat):Int)));exact rfl;exact rfl;omega)|((with_reducible apply oq_addE (k:=((a+(q+1):Nat):Int)));exact rfl;exact rfl;omega)|(focus ((with_reducible apply (oq_shrE (a:=a+i+(a+j)) (r:=a+q)));exact rfl;exact rfl;omega;omega))|((with_reducible apply oq_subE (k:=((m+(h-1-q):Nat):Int)));exact rfl;exact rfl;omega)|(focus ((with_reducible apply oq_convU);(iterate 3 exact rfl);(refine ⟨?_,?_⟩<;>omega)))|(focus ((with_reducible apply oq_indexAddrN);(iterate 4 exact rfl);omega))|((with_reducible apply oq_lssT);exact rfl;exact rfl;omega)|((with_reducible apply oq_lssF);exact rfl;exact rfl;omega)|(apply oq_fn;exact rfl;first|exact trivial|(and_intros<;>omega)|omega|skip)|((with_reducible apply oq_loadAgg);exact rfl;exact rfl)|((with_reducible apply oq_call (k:=kf) (hc:=HK.call));exact rfl;exact rfl;exact fun D w1 hw1=>HC w1))|((with_reducible apply tl_id);first|(with_reducible apply tl_nil)|((with_reducible apply u_q);(iterate 4 exact rfl)))|((with_reducible apply gx_id);first|(with_reducible apply v_nil)|((with_reducible apply v_q);(iterate 3 exact rfl)))|((with_reducible apply rd_id);first|(apply Rd.own;(repeat first|exact P0|apply P1);with_reducible (first|exact q0|exact q1|exact q2|exact r0|exact r1|exact r2);done))|((with_reducible apply t_id);first|(with_reducible apply t_seq)|(apply t_region;kernel_rfl)|(apply t_drawn;kernel_rfl;decide +kernel;try simp only [List.append_eq,List.cons_append,List.nil_append])|((with_reducible apply t_condT);exact rfl)|(with_reducible apply t_skip)|(with_reducible apply t_block))|with_reducible apply q_thenN|with_reducible apply q_blockN|exact Rdn.zero|apply Rdn.succ)
       all_goals (refine ⟨(q+1,j),(by refine ⟨(by simp only;omega),(by simp only;omega),h2,.inr ⟨x,y,(by simpa using hx),(by rw [show h-(q+1)=h-1-q by omega];exact hy),hc⟩,h4⟩),(by simp only;omega),?_,?_⟩<;>(try simp only [List.cons_append,List.nil_append])<;>(repeat' (first|exact FrSub.nil|(apply FrSub.cons;exact rfl)|exact HpSub.refl _)))
   · obtain rfl:i=j:=by omega
     repeat' (first|((with_reducible apply oq_id);first|((with_reducible apply oq_lssF);exact rfl;exact rfl;omega)|(apply oq_fn;exact rfl;first|exact trivial|(and_intros<;>omega)|omega|skip))|((with_reducible apply tl_id);first|(with_reducible apply tl_nil)|((with_reducible apply u_q);(iterate 4 exact rfl)))|((with_reducible apply t_id);first|(with_reducible apply t_seq)|(apply t_region;kernel_rfl)|((with_reducible apply t_condF);exact rfl)|(with_reducible apply t_exit))|with_reducible apply q_thenN|with_reducible apply q_thenE|((with_reducible apply q_blockE);exact rfl))
     all_goals exact ⟨rfl,i,⟨h0,h2,sym_pick hw hU hV h0 h2 hlo hhi hhU hhh hh3 h3 h4⟩,by (repeat first|exact FrSub.nil|(apply FrSub.cons;exact rfl)),by (repeat (first|exact HpSub.refl _|(apply HpSub.consE;(repeat first|exact P0|apply P1);exact rfl)|exact HpSub.nil))⟩
 rintro i ⟨h0,h2,hmrg⟩
 have lu:(U.take i).length=i:=by simp;omega
 have lu':(U.drop i).length=U.length-i:=by simp
 have lv:(V.take (h-i)).length=h-i:=by simp;omega
 have lv':(V.drop (h-i)).length=V.length-(h-i):=by simp
 have eU:=List.take_append_drop i U
 have eV:=List.take_append_drop (h-i) V
 have sU:Srt lt (U.take i++U.drop i):=by rw [eU];exact hU
 have sV:Srt lt (V.take (h-i)++V.drop (h-i)):=by rw [eV];exact hV
 obtain ⟨sU1,sU2,_⟩:=List.pairwise_append.1 sU
 obtain ⟨sV1,sV2,_⟩:=List.pairwise_append.1 sV
 rw [hmrg]
 generalize U.take i=U1 at *
 generalize U.drop i=U2 at *
 generalize V.take (h-i)=V1 at *
 generalize V.drop (h-i)=V2 at *
 rw [← eU,← eV] at hn0 ⊢
 clear hmrg
 have ml:=mrg_len (lt:=lt) U1 V1
 simp only [List.append_assoc] at hn0 ⊢
 have hn2:=hn0
 simp only [List.length_append] at hn2
 refine t_cut (ι:=Unit) (fun _=>[(0,.slice (some ⟨g,0,none⟩) n cp),(1,.int .i64 (a:Nat)),(2,.int .i64 (m:Nat)),(3,.int .i64 (b:Nat)),(4,.func (.func kf) #[] #[]),(18,.int .i64 (a+h:Nat)),(20,.int .i64 (a+i:Nat)),(24,.int .i64 (m+(h-i):Nat))]) (fun _=>[(g,coB fx fy (P++(U1++(U2++(V1++(V2++Q))))),some (111,2,cp))]) (fun _=>True) ?_ ?_
 · repeat' (first|((with_reducible apply oq_id);first|((with_reducible apply oq_subE (k:=((m+(h-i):Nat):Int)));exact rfl;exact rfl;omega)|(apply oq_fn;exact rfl;first|exact trivial|(and_intros<;>omega)|omega|skip))|((with_reducible apply tl_id);first|(with_reducible apply tl_nil)|((with_reducible apply u_q);(iterate 4 exact rfl)))|((with_reducible apply t_id);first|(apply t_region;kernel_rfl)))
   all_goals exact ⟨rfl,(),trivial,by (repeat first|exact FrSub.nil|(apply FrSub.cons;exact rfl)),by (repeat (first|exact HpSub.refl _|(apply HpSub.consE;(repeat first|exact P0|apply P1);exact rfl)|exact HpSub.nil))⟩
 rintro ⟨⟩ -
 refine t_cut (ι:=Unit) (fun _=>[(0,.slice (some ⟨g,0,none⟩) n cp),(1,.int .i64 (a:Nat)),(2,.int .i64 (m:Nat)),(3,.int .i64 (b:Nat)),(4,.func (.func kf) #[] #[]),(18,.int .i64 (a+h:Nat)),(20,.int .i64 (a+i:Nat)),(24,.int .i64 (m+(h-i):Nat))]) (fun _=>[(g,coB fx fy (P++(U1++(V1++(U2++(V2++Q))))),some (111,2,cp))]) (fun _=>True) ?_ ?_
 · by_cases hz:0<U2.length∧0<V1.length
   · obtain ⟨z1,z2⟩:=hz
     have hB1:(P++U1)++(U2++(V1++(V2++Q)))=P++(U1++(U2++(V1++(V2++Q)))):=by simp only [List.append_assoc]
     rw [← hB1] at hn0 ⊢
     repeat' (first|((with_reducible apply oq_id);first|((with_reducible apply oq_lssT);exact rfl;exact rfl;omega)|(apply oq_fn;exact rfl;first|exact trivial|(and_intros<;>omega)|omega|skip))|((with_reducible apply tl_id);first|(with_reducible apply tl_nil)|((with_reducible apply u_s);(iterate 3 exact rfl);(with_reducible apply os_callW (b:=g) (hc:=Try.call215));exact rfl;exact rfl;(repeat first|exact P0|apply P1);exact fun D w1 hw1=>rot_G hw HK g cp n (a+i) m (m+(h-i)) (P++U1) U2 V1 (V2++Q) w1 (hw1.blkP (by (repeat first|exact P0|apply P1))) z1 z2 (by simp only [List.length_append];omega) (by omega) (by omega) hn0 hn1)|((with_reducible apply u_q);(iterate 4 exact rfl)))|((with_reducible apply t_id);first|(with_reducible apply t_seq)|(apply t_region;kernel_rfl)|((with_reducible apply t_condT);exact rfl))|with_reducible apply q_thenN)
     all_goals exact ⟨rfl,(),trivial,by (repeat first|exact FrSub.nil|(apply FrSub.cons;exact rfl)),by (simp only [List.append_assoc];(repeat (first|exact HpSub.refl _|(apply HpSub.consE;(repeat first|exact P0|apply P1);exact rfl)|exact HpSub.nil)))⟩
   · have hsame:P++(U1++(V1++(U2++(V2++Q))))=P++(U1++(U2++(V1++(V2++Q)))):=by
       by_cases z1:0<U2.length
       · rw [List.length_eq_zero_iff.1 (show V1.length=0 by omega)];rfl
       · rw [List.length_eq_zero_iff.1 (show U2.length=0 by omega)];rfl
     rw [hsame]
     by_cases z1:0<U2.length
     · repeat' (first|((with_reducible apply oq_id);first|((with_reducible apply oq_lssT);exact rfl;exact rfl;omega)|((with_reducible apply oq_lssF);exact rfl;exact rfl;omega)|(apply oq_fn;exact rfl;first|exact trivial|(and_intros<;>omega)|omega|skip))|((with_reducible apply tl_id);first|(with_reducible apply tl_nil)|((with_reducible apply u_q);(iterate 4 exact rfl)))|((with_reducible apply t_id);first|(with_reducible apply t_seq)|(apply t_region;kernel_rfl)|((with_reducible apply t_condF);exact rfl)|(with_reducible apply t_skip))|with_reducible apply q_thenN)
       all_goals exact ⟨rfl,(),trivial,by (repeat first|exact FrSub.nil|(apply FrSub.cons;exact rfl)),by (repeat (first|exact HpSub.refl _|(apply HpSub.consE;(repeat first|exact P0|apply P1);exact rfl)|exact HpSub.nil))⟩
     · repeat' (first|((with_reducible apply oq_id);first|((with_reducible apply oq_lssF);exact rfl;exact rfl;omega)|(apply oq_fn;exact rfl;first|exact trivial|(and_intros<;>omega)|omega|skip))|((with_reducible apply tl_id);first|(with_reducible apply tl_nil)|((with_reducible apply u_q);(iterate 4 exact rfl))|((with_reducible apply u_skip);(iterate 3 exact rfl)))|((with_reducible apply t_id);first|(with_reducible apply t_seq)|(apply t_region;kernel_rfl)|((with_reducible apply t_condF);exact rfl)|(with_reducible apply t_skip))|with_reducible apply q_thenN)
       all_goals exact ⟨rfl,(),trivial,by (repeat first|exact FrSub.nil|(apply FrSub.cons;exact rfl)),by (repeat (first|exact HpSub.refl _|(apply HpSub.consE;(repeat first|exact P0|apply P1);exact rfl)|exact HpSub.nil))⟩
 rintro ⟨⟩ -
 refine t_cut (ι:=Unit) (fun _=>[(0,.slice (some ⟨g,0,none⟩) n cp),(1,.int .i64 (a:Nat)),(2,.int .i64 (m:Nat)),(3,.int .i64 (b:Nat)),(4,.func (.func kf) #[] #[]),(18,.int .i64 (a+h:Nat)),(20,.int .i64 (a+i:Nat)),(24,.int .i64 (m+(h-i):Nat))]) (fun _=>[(g,coB fx fy (P++(mrg lt U1 V1++(U2++(V2++Q)))),some (111,2,cp))]) (fun _=>True) ?_ ?_
 · by_cases hz:0<U1.length∧0<V1.length
   · obtain ⟨z1,z2⟩:=hz
     repeat' (first|((with_reducible apply oq_id);first|((with_reducible apply oq_lssT);exact rfl;exact rfl;omega)|(apply oq_fn;exact rfl;first|exact trivial|(and_intros<;>omega)|omega|skip))|((with_reducible apply tl_id);first|(with_reducible apply tl_nil)|((with_reducible apply u_s);(iterate 3 exact rfl);(with_reducible apply os_callW (b:=g) (hc:=Try.call206));exact rfl;exact rfl;(repeat first|exact P0|apply P1);exact fun D w1 hw1=>ih (U1.length+V1.length) (by omega) g cp n a (a+i) (a+h) P U1 V1 (U2++(V2++Q)) w1 rfl (hw1.blkP (by (repeat first|exact P0|apply P1))) sU1 sV1 z1 z2 ha (by omega) (by omega) (by simp only [List.length_append];omega) hn1)|((with_reducible apply u_q);(iterate 4 exact rfl)))|((with_reducible apply t_id);first|(with_reducible apply t_seq)|(apply t_region;kernel_rfl)|((with_reducible apply t_condT);exact rfl))|with_reducible apply q_thenN)
     all_goals exact ⟨rfl,(),trivial,by (repeat first|exact FrSub.nil|(apply FrSub.cons;exact rfl)),by (repeat (first|exact HpSub.refl _|(apply HpSub.consE;(repeat first|exact P0|apply P1);exact rfl)|exact HpSub.nil))⟩
   · have hsame:P++(mrg lt U1 V1++(U2++(V2++Q)))=P++(U1++(V1++(U2++(V2++Q)))):=by
       by_cases z1:0<U1.length
       · rw [List.length_eq_zero_iff.1 (show V1.length=0 by omega),mrg_right];rfl
       · rw [List.length_eq_zero_iff.1 (show U1.length=0 by omega),mrg_nil];rfl
     rw [hsame]
     by_cases z1:0<U1.length
     · repeat' (first|((with_reducible apply oq_id);first|((with_reducible apply oq_lssT);exact rfl;exact rfl;omega)|((with_reducible apply oq_lssF);exact rfl;exact rfl;omega)|(apply oq_fn;exact rfl;first|exact trivial|(and_intros<;>omega)|omega|skip))|((with_reducible apply tl_id);first|(with_reducible apply tl_nil)|((with_reducible apply u_q);(iterate 4 exact rfl)))|((with_reducible apply t_id);first|(with_reducible apply t_seq)|(apply t_region;kernel_rfl)|((with_reducible apply t_condF);exact rfl)|(with_reducible apply t_skip))|with_reducible apply q_thenN)
       all_goals exact ⟨rfl,(),trivial,by (repeat first|exact FrSub.nil|(apply FrSub.cons;exact rfl)),by (repeat (first|exact HpSub.refl _|(apply HpSub.consE;(repeat first|exact P0|apply P1);exact rfl)|exact HpSub.nil))⟩
     · repeat' (first|((with_reducible apply oq_id);first|((with_reducible apply oq_lssF);exact rfl;exact rfl;omega)|(apply oq_fn;exact rfl;first|exact trivial|(and_intros<;>omega)|omega|skip))|((with_reducible apply tl_id);first|(with_reducible apply tl_nil)|((with_reducible apply u_q);(iterate 4 exact rfl))|((with_reducible apply u_skip);(iterate 3 exact rfl)))|((with_reducible apply t_id);first|(with_reducible apply t_seq)|(apply t_region;kernel_rfl)|((with_reducible apply t_condF);exact rfl)|(with_reducible apply t_skip))|with_reducible apply q_thenN)
       all_goals exact ⟨rfl,(),trivial,by (repeat first|exact FrSub.nil|(apply FrSub.cons;exact rfl)),by (repeat (first|exact HpSub.refl _|(apply HpSub.consE;(repeat first|exact P0|apply P1);exact rfl)|exact HpSub.nil))⟩
 rintro ⟨⟩ -
 by_cases hz:0<U2.length∧0<V2.length
 · obtain ⟨z1,z2⟩:=hz
   have hB1:(P++mrg lt U1 V1)++(U2++(V2++Q))=P++(mrg lt U1 V1++(U2++(V2++Q))):=by simp only [List.append_assoc]
   rw [← hB1]
   repeat' (first|((with_reducible apply oq_id);first|((with_reducible apply oq_lssT);exact rfl;exact rfl;omega)|(apply oq_fn;exact rfl;first|exact trivial|(and_intros<;>omega)|omega|skip))|((with_reducible apply tl_id);first|(with_reducible apply tl_nil)|((with_reducible apply u_s);(iterate 3 exact rfl);(with_reducible apply os_callW (b:=g) (hc:=Try.call206));exact rfl;exact rfl;(repeat first|exact P0|apply P1);exact fun D w1 hw1=>ih (U2.length+V2.length) (by omega) g cp n (a+h) (m+(h-i)) b (P++mrg lt U1 V1) U2 V2 Q w1 rfl (hw1.blkP (by (repeat first|exact P0|apply P1))) sU2 sV2 z1 z2 (by simp only [List.length_append];omega) (by omega) (by omega) (by simp only [List.length_append];omega) hn1)|((with_reducible apply u_q);(iterate 4 exact rfl)))|((with_reducible apply t_id);first|(with_reducible apply t_seq)|(apply t_region;kernel_rfl)|((with_reducible apply t_condT);exact rfl))|with_reducible apply q_thenN|(with_reducible apply end_normal)|exact rvs_nil)
   all_goals exact ⟨rfl,by (simp only [List.append_assoc];(repeat (first|exact HpSub.refl _|(apply HpSub.consE;(repeat first|exact P0|apply P1);exact rfl)|exact HpSub.nil)))⟩
 · have hsame:P++(mrg lt U1 V1++(mrg lt U2 V2++Q))=P++(mrg lt U1 V1++(U2++(V2++Q))):=by
     by_cases z1:0<U2.length
     · rw [List.length_eq_zero_iff.1 (show V2.length=0 by omega),mrg_right];rfl
     · rw [List.length_eq_zero_iff.1 (show U2.length=0 by omega),mrg_nil];rfl
   rw [hsame]
   by_cases z1:0<U2.length
   · repeat' (first|((with_reducible apply oq_id);first|((with_reducible apply oq_lssT);exact rfl;exact rfl;omega)|((with_reducible apply oq_lssF);exact rfl;exact rfl;omega)|(apply oq_fn;exact rfl;first|exact trivial|(and_intros<;>omega)|omega|skip))|((with_reducible apply tl_id);first|(with_reducible apply tl_nil)|((with_reducible apply u_q);(iterate 4 exact rfl)))|((with_reducible apply t_id);first|(with_reducible apply t_seq)|(apply t_region;kernel_rfl)|((with_reducible apply t_condF);exact rfl)|(with_reducible apply t_skip))|with_reducible apply q_thenN|(with_reducible apply end_normal)|exact rvs_nil)
     all_goals exact ⟨rfl,by (repeat (first|exact HpSub.refl _|(apply HpSub.consE;(repeat first|exact P0|apply P1);exact rfl)|exact HpSub.nil))⟩
   · repeat' (first|((with_reducible apply oq_id);first|((with_reducible apply oq_lssF);exact rfl;exact rfl;omega)|(apply oq_fn;exact rfl;first|exact trivial|(and_intros<;>omega)|omega|skip))|((with_reducible apply tl_id);first|(with_reducible apply tl_nil)|((with_reducible apply u_q);(iterate 4 exact rfl))|((with_reducible apply u_skip);(iterate 3 exact rfl)))|((with_reducible apply t_id);first|(with_reducible apply t_seq)|(apply t_region;kernel_rfl)|((with_reducible apply t_condF);exact rfl)|(with_reducible apply t_skip))|with_reducible apply q_thenN|(with_reducible apply end_normal)|exact rvs_nil)
     all_goals exact ⟨rfl,by (repeat (first|exact HpSub.refl _|(apply HpSub.consE;(repeat first|exact P0|apply P1);exact rfl)|exact HpSub.nil))⟩
theorem stable_G {α:Type} {fx fy:α→Int} {lt:α→α→Bool} {kf:Nat} (hw:Wo lt) (HK:CmpOk fx fy lt kf) (g cp n:Nat) (L:List α) (w:World) (hB:Blk w g (coB fx fy L) (some (111,2,cp))) (hn:L.length=n) (hn1:n≤1000000) :
   Calls Try.prog 191 #[.slice (some ⟨g,0,none⟩) n cp,.int .i64 (n:Nat),.func (.func kf) #[] #[]] w fun e w'=>e=.returned (.tuple #[])∧ExtM [g] w w'∧Blk w' g (coB fx fy (srt lt L)) (some (111,2,cp)):=by
 refine enterW (c:=cxM [g] w 63) Try.func191 rfl rfl rfl rfl hB ?_
 refine t_cut (ι:=Unit) (fun _=>[(0,.slice (some ⟨g,0,none⟩) n cp),(1,.int .i64 (n:Nat)),(2,.func (.func kf) #[] #[]),(6,.int .i64 20)]) (fun _=>[(g,coB fx fy (L),some (111,2,cp))]) (fun _=>True) ?_ ?_
 · repeat' (first|((with_reducible apply oq_id);first|(apply oq_fn;exact rfl;first|exact trivial|(and_intros<;>omega)|omega|skip))|((with_reducible apply tl_id);first|(with_reducible apply tl_nil)|((with_reducible apply u_q);(iterate 4 exact rfl)))|((with_reducible apply t_id);first|(apply t_region;kernel_rfl)))
   all_goals exact ⟨rfl,(),trivial,by (repeat first|exact FrSub.nil|(apply FrSub.cons;exact rfl)),by (repeat (first|exact HpSub.refl _|(apply HpSub.consE;(repeat first|exact P0|apply P1);exact rfl)|exact HpSub.nil))⟩
 rintro ⟨⟩ -
 refine t_cut (ι:=Unit) (fun _=>[(0,.slice (some ⟨g,0,none⟩) n cp),(1,.int .i64 (n:Nat)),(2,.func (.func kf) #[] #[]),(6,.int .i64 20),(7,.int .i64 0),(8,.int .i64 20)]) (fun _=>[(g,coB fx fy (L),some (111,2,cp))]) (fun _=>True) ?_ ?_
 · repeat' (first|((with_reducible apply oq_id);first|(apply oq_fn;exact rfl;first|exact trivial|(and_intros<;>omega)|omega|skip))|((with_reducible apply tl_id);first|(with_reducible apply tl_nil)|((with_reducible apply u_q);(iterate 4 exact rfl)))|((with_reducible apply t_id);first|(apply t_region;kernel_rfl)))
   all_goals exact ⟨rfl,(),trivial,by (repeat first|exact FrSub.nil|(apply FrSub.cons;exact rfl)),by (repeat (first|exact HpSub.refl _|(apply HpSub.consE;(repeat first|exact P0|apply P1);exact rfl)|exact HpSub.nil))⟩
 rintro ⟨⟩ -
 refine t_cut (ι:=List α×List α×List α) (fun z=>[(0,.slice (some ⟨g,0,none⟩) n cp),(1,.int .i64 (n:Nat)),(2,.func (.func kf) #[] #[]),(6,.int .i64 20),(7,.int .i64 (z.1.length:Nat))]) (fun z=>[(g,coB fx fy (z.2.1++z.2.2),some (111,2,cp))]) (fun z=>Pf lt 20 z.1 z.2.1∧L=z.1++z.2.2∧z.2.2.length<20) ?_ ?_
 · repeat' (first|((with_reducible apply t_id);first|(with_reducible apply t_block)))
   apply t_loopK (ι:=List α×List α×List α) [0,1,2,6] (fun z=>[(7,.int .i64 (z.1.length:Nat)),(8,.int .i64 ((z.1.length+20:Nat):Int))]) (fun z=>[(g,coB fx fy (z.2.1++z.2.2),some (111,2,cp))]) (fun z=>Pf lt 20 z.1 z.2.1∧L=z.1++z.2.2) (fun z=>z.2.2.length) (([],[],L))
   (repeat (first|exact KeepF.nil|(apply KeepF.cons;exact rfl)|apply KeepF.skip))
   (repeat (first|exact FrSub.nil|(apply FrSub.cons;exact rfl)|(apply FrSub.consE;exact rfl;(congr 2;first|omega|(simp only;omega)|(simp only [List.length_nil];omega)|(simp only [List.length_append];omega)))))
   (repeat (first|exact HpSub.refl _|(apply HpSub.consE;(repeat first|exact P0|apply P1);exact rfl)|exact HpSub.nil))
   · exact ⟨Pf.zero,rfl⟩
   rintro ⟨A,P,R⟩ ⟨hP,hL⟩
   simp only at hP hL
   try dsimp only
   have hPl:=hP.len
   have hLl:A.length+R.length=n:=by rw [← hn,hL,List.length_append]
   by_cases hc:20≤R.length
   · obtain ⟨B,R2,hB2,rfl⟩:∃ B R2,B.length=20∧R=B++R2:=⟨R.take 20,R.drop 20,by simp;omega,(List.take_append_drop _ _).symm⟩
     simp only [List.length_append] at hLl hc
     repeat' (first|((with_reducible apply oq_id);first|((with_reducible apply oq_addE (k:=((A.length+20+20:Nat):Int)));exact rfl;exact rfl;omega)|((with_reducible apply oq_leqT);exact rfl;exact rfl;omega)|(apply oq_fn;exact rfl;first|exact trivial|(and_intros<;>omega)|omega|skip))|((with_reducible apply tl_id);first|(with_reducible apply tl_nil)|((with_reducible apply u_s);(iterate 3 exact rfl);(with_reducible apply os_callW (b:=g) (hc:=Try.call196));exact rfl;exact rfl;(repeat first|exact P0|apply P1);exact fun D w1 hw1=>ins_G hw HK g cp n A.length (A.length+20) P B R2 w1 (hw1.blkP (by (repeat first|exact P0|apply P1))) hPl (by omega) (by simp only [List.length_append];omega) hn1)|((with_reducible apply u_q);(iterate 4 exact rfl)))|((with_reducible apply t_id);first|(with_reducible apply t_seq)|(apply t_region;kernel_rfl)|((with_reducible apply t_condT);exact rfl)|(with_reducible apply t_skip)|(with_reducible apply t_block))|with_reducible apply q_thenN|with_reducible apply q_blockN)
     all_goals (refine ⟨(A++B,P++srt lt B,R2),⟨hP.snoc hB2,(by rw [hL,List.append_assoc])⟩,(by simp only [List.length_append];omega),?_,?_⟩)
     all_goals first
       | ((try simp only [List.cons_append,List.nil_append]);(repeat (first|exact FrSub.nil|(apply FrSub.cons;exact rfl)|(apply FrSub.consE;exact rfl;(congr 2;first|omega|(simp only;omega)|(simp only [List.length_nil];omega)|(simp only [List.length_append];omega)))));done)
       | (simp only [List.append_assoc];(try simp only [List.cons_append,List.nil_append]);(repeat (first|exact HpSub.refl _|(apply HpSub.consE;(repeat first|exact P0|apply P1);exact rfl)|exact HpSub.nil));done)
   · repeat' (first|((with_reducible apply oq_id);first|((with_reducible apply oq_leqF);exact rfl;exact rfl;omega)|(apply oq_fn;exact rfl;first|exact trivial|(and_intros<;>omega)|omega|skip))|((with_reducible apply tl_id);first|(with_reducible apply tl_nil)|((with_reducible apply u_q);(iterate 4 exact rfl)))|((with_reducible apply t_id);first|(with_reducible apply t_seq)|(apply t_region;kernel_rfl)|((with_reducible apply t_condF);exact rfl)|(with_reducible apply t_exit))|with_reducible apply q_thenN|with_reducible apply q_thenE|((with_reducible apply q_blockE);exact rfl))
     all_goals exact ⟨rfl,(A,P,R),⟨hP,hL,by simp only;omega⟩,by (repeat first|exact FrSub.nil|(apply FrSub.cons;exact rfl)),by (repeat (first|exact HpSub.refl _|(apply HpSub.consE;(repeat first|exact P0|apply P1);exact rfl)|exact HpSub.nil))⟩
 rintro ⟨A,P,R⟩ ⟨hP,hL,hR⟩
 simp only at hP hL hR
 try dsimp only
 have hPl:=hP.len
 have hLl:A.length+R.length=n:=by rw [← hn,hL,List.length_append]
 refine t_cut (ι:=List α) (fun D0=>[(0,.slice (some ⟨g,0,none⟩) n cp),(1,.int .i64 (n:Nat)),(2,.func (.func kf) #[] #[]),(6,.int .i64 20)]) (fun D0=>[(g,coB fx fy (D0),some (111,2,cp))]) (fun D0=>Bl lt 20 L D0) ?_ ?_
 · have hRn:P++R=P++(R++[]):=by rw [List.append_nil]
   rw [hRn]
   repeat' (first|((with_reducible apply oq_id);first|(apply oq_fn;exact rfl;first|exact trivial|(and_intros<;>omega)|omega|skip))|((with_reducible apply tl_id);first|(with_reducible apply tl_nil)|((with_reducible apply u_s);(iterate 3 exact rfl);(with_reducible apply os_callW (b:=g) (hc:=Try.call196));exact rfl;exact rfl;(repeat first|exact P0|apply P1);exact fun D w1 hw1=>ins_G hw HK g cp n A.length n P R [] w1 (hw1.blkP (by (repeat first|exact P0|apply P1))) hPl (by omega) (by simp only [List.length_append,List.length_nil];omega) hn1)|((with_reducible apply u_q);(iterate 4 exact rfl)))|((with_reducible apply t_id);first|(apply t_region;kernel_rfl)))
   all_goals exact ⟨rfl,P++(srt lt R++[]),by (rw [hL,List.append_nil];exact hP.bl (.last (by omega))),by (repeat first|exact FrSub.nil|(apply FrSub.cons;exact rfl)),by (repeat (first|exact HpSub.refl _|(apply HpSub.consE;(repeat first|exact P0|apply P1);exact rfl)|exact HpSub.nil))⟩
 rintro D0 hD0
 try dsimp only
 clear hP hL hR hPl hLl A P R
 repeat' (first|((with_reducible apply t_id);first|(with_reducible apply t_block)))
 apply t_loopK (ι:=Nat×List α) [0,1,2] (fun z=>[(6,.int .i64 (z.1:Nat))]) (fun z=>[(g,coB fx fy (z.2),some (111,2,cp))]) (fun z=>20≤z.1∧z.1≤2000000∧Bl lt z.1 L z.2) (fun z=>n-z.1) ((20,D0))
 (repeat (first|exact KeepF.nil|(apply KeepF.cons;exact rfl)|apply KeepF.skip))
 (repeat (first|exact FrSub.nil|(apply FrSub.cons;exact rfl)|(apply FrSub.consE;exact rfl;(congr 2;first|omega|(simp only;omega)|(simp only [List.length_nil];omega)|(simp only [List.length_append];omega)))))
 (repeat (first|exact HpSub.refl _|(apply HpSub.consE;(repeat first|exact P0|apply P1);exact rfl)|exact HpSub.nil))
 · exact ⟨Nat.le_refl _,(by simp only;omega),hD0⟩
 rintro ⟨s,D⟩ ⟨hs1,hs2,hD⟩
 simp only at hs1 hs2 hD
 try dsimp only
 have hDl:=hD.len
 by_cases hsn:s<n
 · refine t_cut (ι:=Unit) (fun _=>[(0,.slice (some ⟨g,0,none⟩) n cp),(1,.int .i64 (n:Nat)),(2,.func (.func kf) #[] #[]),(6,.int .i64 (s:Nat))]) (fun _=>[(g,coB fx fy (D),some (111,2,cp))]) (fun _=>True) ?_ ?_
   · repeat' (first|((with_reducible apply oq_id);first|((with_reducible apply oq_lssT);exact rfl;exact rfl;omega)|(apply oq_fn;exact rfl;first|exact trivial|(and_intros<;>omega)|omega|skip))|((with_reducible apply tl_id);first|(with_reducible apply tl_nil)|((with_reducible apply u_q);(iterate 4 exact rfl)))|((with_reducible apply t_id);first|(with_reducible apply t_seq)|(apply t_region;kernel_rfl)|((with_reducible apply t_condT);exact rfl)|(with_reducible apply t_skip))|with_reducible apply q_thenN)
     all_goals exact ⟨rfl,(),trivial,by (repeat first|exact FrSub.nil|(apply FrSub.cons;exact rfl)),by (repeat (first|exact HpSub.refl _|(apply HpSub.consE;(repeat first|exact P0|apply P1);exact rfl)|exact HpSub.nil))⟩
   rintro ⟨⟩ -
   refine t_block ?_
   refine t_cut (ι:=Unit) (fun _=>[(0,.slice (some ⟨g,0,none⟩) n cp),(1,.int .i64 (n:Nat)),(2,.func (.func kf) #[] #[]),(6,.int .i64 (s:Nat)),(7,.int .i64 0),(8,.int .i64 (2*s:Nat))]) (fun _=>[(g,coB fx fy (D),some (111,2,cp))]) (fun _=>True) ?_ ?_
   · repeat' (first|((with_reducible apply oq_id);first|(focus ((with_reducible apply (oq_mulE (k:=((2*s:Nat):Int))));exact rfl;exact rfl;omega;omega))|(apply oq_fn;exact rfl;first|exact trivial|(and_intros<;>omega)|omega|skip))|((with_reducible apply tl_id);first|(with_reducible apply tl_nil)|((with_reducible apply u_q);(iterate 4 exact rfl)))|((with_reducible apply t_id);first|(apply t_region;kernel_rfl)))
     all_goals exact ⟨rfl,(),trivial,by (repeat first|exact FrSub.nil|(apply FrSub.cons;exact rfl)),by (repeat (first|exact HpSub.refl _|(apply HpSub.consE;(repeat first|exact P0|apply P1);exact rfl)|exact HpSub.nil))⟩
   rintro ⟨⟩ -
   refine t_cut (ι:=List α×List α×List α×List α) (fun z=>[(0,.slice (some ⟨g,0,none⟩) n cp),(1,.int .i64 (n:Nat)),(2,.func (.func kf) #[] #[]),(6,.int .i64 (s:Nat)),(7,.int .i64 (z.1.length:Nat))]) (fun z=>[(g,coB fx fy (z.2.1++z.2.2.2),some (111,2,cp))]) (fun z=>Pf lt (2*s) z.1 z.2.1∧Bl lt s z.2.2.1 z.2.2.2∧L=z.1++z.2.2.1∧z.2.2.1.length<2*s) ?_ ?_
   · repeat' (first|((with_reducible apply t_id);first|(with_reducible apply t_block)))
     apply t_loopK (ι:=List α×List α×List α×List α) [0,1,2,6] (fun z=>[(7,.int .i64 (z.1.length:Nat)),(8,.int .i64 ((z.1.length+2*s:Nat):Int))]) (fun z=>[(g,coB fx fy (z.2.1++z.2.2.2),some (111,2,cp))]) (fun z=>Pf lt (2*s) z.1 z.2.1∧Bl lt s z.2.2.1 z.2.2.2∧L=z.1++z.2.2.1) (fun z=>z.2.2.1.length) (([],[],L,D))
     (repeat (first|exact KeepF.nil|(apply KeepF.cons;exact rfl)|apply KeepF.skip))
     (repeat (first|exact FrSub.nil|(apply FrSub.cons;exact rfl)|(apply FrSub.consE;exact rfl;(congr 2;first|omega|(simp only;omega)|(simp only [List.length_nil];omega)|(simp only [List.length_append];omega)))))
     (repeat (first|exact HpSub.refl _|(apply HpSub.consE;(repeat first|exact P0|apply P1);exact rfl)|exact HpSub.nil))
     · exact ⟨Pf.zero,hD,rfl⟩
     rintro ⟨A,P,R,E⟩ ⟨hP,hE,hL⟩
     simp only at hP hE hL
     try dsimp only
     have hPl:=hP.len
     have hLl:A.length+R.length=n:=by rw [← hn,hL,List.length_append]
     by_cases hc:2*s≤R.length
     · obtain ⟨B1,R1,E1,hB1,rfl,rfl,hE1⟩:=hE.split (by omega)
       simp only [List.length_append] at hLl hc
       obtain ⟨B2,R2,E2,hB2,rfl,rfl,hE2⟩:=hE1.split' (by omega)
       simp only [List.length_append] at hLl hc
       have el:=hE2.len
       have sl1:(srt lt B1).length=s:=by rw [srt_len,hB1]
       have sl2:(srt lt B2).length=s:=by rw [srt_len,hB2]
       repeat' (first|((with_reducible apply oq_id);first|((with_reducible apply oq_addE (k:=((A.length+s:Nat):Int)));exact rfl;exact rfl;omega)|(focus ((with_reducible apply (oq_mulE (k:=((2*s:Nat):Int))));exact rfl;exact rfl;omega;omega))|((with_reducible apply oq_addE (k:=((A.length+2*s+2*s:Nat):Int)));exact rfl;exact rfl;omega)|((with_reducible apply oq_leqT);exact rfl;exact rfl;omega)|(apply oq_fn;exact rfl;first|exact trivial|(and_intros<;>omega)|omega|skip))|((with_reducible apply tl_id);first|(with_reducible apply tl_nil)|((with_reducible apply u_s);(iterate 3 exact rfl);(with_reducible apply os_callW (b:=g) (hc:=Try.call206));exact rfl;exact rfl;(repeat first|exact P0|apply P1);exact fun D w1 hw1=>sym_G hw HK (2*s) g cp n A.length (A.length+s) (A.length+2*s) P (srt lt B1) (srt lt B2) E2 w1 (by omega) (hw1.blkP (by (repeat first|exact P0|apply P1))) (srt_srt hw _) (srt_srt hw _) (by omega) (by omega) hPl (by omega) (by omega) (by simp only [List.length_append];omega) hn1)|((with_reducible apply u_q);(iterate 4 exact rfl)))|((with_reducible apply t_id);first|(with_reducible apply t_seq)|(apply t_region;kernel_rfl)|((with_reducible apply t_condT);exact rfl)|(with_reducible apply t_skip)|(with_reducible apply t_block))|with_reducible apply q_thenN|with_reducible apply q_blockN)
       all_goals (refine ⟨(A++(B1++B2),P++srt lt (B1++B2),R2,E2),⟨hP.snoc (by rw [List.length_append];omega),hE2,(by rw [hL];simp only [List.append_assoc])⟩,(by simp only [List.length_append];omega),?_,?_⟩)
       all_goals first
         | ((try simp only [List.cons_append,List.nil_append]);(repeat (first|exact FrSub.nil|(apply FrSub.cons;exact rfl)|(apply FrSub.consE;exact rfl;(congr 2;first|omega|(simp only;omega)|(simp only [List.length_nil];omega)|(simp only [List.length_append];omega)))));done)
         | (rw [show mrg lt (srt lt B1) (srt lt B2)=srt lt (B1++B2) from srt_app hw B1 B2];simp only [List.append_assoc];(try simp only [List.cons_append,List.nil_append]);(repeat (first|exact HpSub.refl _|(apply HpSub.consE;(repeat first|exact P0|apply P1);exact rfl)|exact HpSub.nil));done)
     · repeat' (first|((with_reducible apply oq_id);first|((with_reducible apply oq_leqF);exact rfl;exact rfl;omega)|(apply oq_fn;exact rfl;first|exact trivial|(and_intros<;>omega)|omega|skip))|((with_reducible apply tl_id);first|(with_reducible apply tl_nil)|((with_reducible apply u_q);(iterate 4 exact rfl)))|((with_reducible apply t_id);first|(with_reducible apply t_seq)|(apply t_region;kernel_rfl)|((with_reducible apply t_condF);exact rfl)|(with_reducible apply t_exit))|with_reducible apply q_thenN|with_reducible apply q_thenE|((with_reducible apply q_blockE);exact rfl))
       all_goals exact ⟨rfl,(A,P,R,E),⟨hP,hE,hL,by simp only;omega⟩,by (repeat first|exact FrSub.nil|(apply FrSub.cons;exact rfl)),by (repeat (first|exact HpSub.refl _|(apply HpSub.consE;(repeat first|exact P0|apply P1);exact rfl)|exact HpSub.nil))⟩
   rintro ⟨A,P,R,E⟩ ⟨hP,hE,hL,hR⟩
   simp only at hP hE hL hR
   try dsimp only
   have hPl:=hP.len
   have hLl:A.length+R.length=n:=by rw [← hn,hL,List.length_append]
   refine t_cut (ι:=List α) (fun D2=>[(0,.slice (some ⟨g,0,none⟩) n cp),(1,.int .i64 (n:Nat)),(2,.func (.func kf) #[] #[]),(6,.int .i64 (s:Nat))]) (fun D2=>[(g,coB fx fy (D2),some (111,2,cp))]) (fun D2=>Bl lt (2*s) L D2) ?_ ?_
   · by_cases hc:s<R.length
     · obtain ⟨B1,R1,E1,hB1,rfl,rfl,hE1⟩:=hE.split hc
       simp only [List.length_append] at hLl hc hR
       obtain rfl:=hE1.small (by omega)
       have sl1:(srt lt B1).length=s:=by rw [srt_len,hB1]
       have sl2:(srt lt R1).length=R1.length:=by rw [srt_len]
       have hRn:P++(srt lt B1++srt lt R1)=P++(srt lt B1++(srt lt R1++[])):=by rw [List.append_nil]
       rw [hRn]
       repeat' (first|((with_reducible apply oq_id);first|((with_reducible apply oq_addE (k:=((A.length+s:Nat):Int)));exact rfl;exact rfl;omega)|((with_reducible apply oq_lssT);exact rfl;exact rfl;omega)|(apply oq_fn;exact rfl;first|exact trivial|(and_intros<;>omega)|omega|skip))|((with_reducible apply tl_id);first|(with_reducible apply tl_nil)|((with_reducible apply u_s);(iterate 3 exact rfl);(with_reducible apply os_callW (b:=g) (hc:=Try.call206));exact rfl;exact rfl;(repeat first|exact P0|apply P1);exact fun D w1 hw1=>sym_G hw HK (s+R1.length) g cp n A.length (A.length+s) n P (srt lt B1) (srt lt R1) [] w1 (by omega) (hw1.blkP (by (repeat first|exact P0|apply P1))) (srt_srt hw _) (srt_srt hw _) (by omega) (by omega) hPl (by omega) (by omega) (by simp only [List.length_append,List.length_nil];omega) hn1)|((with_reducible apply u_q);(iterate 4 exact rfl)))|((with_reducible apply t_id);first|(with_reducible apply t_seq)|(apply t_region;kernel_rfl)|((with_reducible apply t_condT);exact rfl))|with_reducible apply q_thenN)
       all_goals exact ⟨rfl,P++(mrg lt (srt lt B1) (srt lt R1)++[]),(by rw [List.append_nil,srt_app hw,hL];exact hP.bl (.last (by simp only [List.length_append];omega))),by (repeat first|exact FrSub.nil|(apply FrSub.cons;exact rfl)),by (repeat (first|exact HpSub.refl _|(apply HpSub.consE;(repeat first|exact P0|apply P1);exact rfl)|exact HpSub.nil))⟩
     · obtain rfl:=hE.small (by omega)
       repeat' (first|((with_reducible apply oq_id);first|((with_reducible apply oq_addE (k:=((A.length+s:Nat):Int)));exact rfl;exact rfl;omega)|((with_reducible apply oq_lssF);exact rfl;exact rfl;omega)|(apply oq_fn;exact rfl;first|exact trivial|(and_intros<;>omega)|omega|skip))|((with_reducible apply tl_id);first|(with_reducible apply tl_nil)|((with_reducible apply u_q);(iterate 4 exact rfl)))|((with_reducible apply t_id);first|(with_reducible apply t_seq)|(apply t_region;kernel_rfl)|((with_reducible apply t_condF);exact rfl)|(with_reducible apply t_skip))|with_reducible apply q_thenN)
       all_goals exact ⟨rfl,P++srt lt R,(by rw [hL];exact hP.bl (.last (by omega))),by (repeat first|exact FrSub.nil|(apply FrSub.cons;exact rfl)),by (repeat (first|exact HpSub.refl _|(apply HpSub.consE;(repeat first|exact P0|apply P1);exact rfl)|exact HpSub.nil))⟩
   rintro D2 hD2
   try dsimp only
   repeat' (first|((with_reducible apply oq_id);first|(focus ((with_reducible apply (oq_mulE (k:=((2*s:Nat):Int))));exact rfl;exact rfl;omega;omega))|(apply oq_fn;exact rfl;first|exact trivial|(and_intros<;>omega)|omega|skip))|((with_reducible apply tl_id);first|(with_reducible apply tl_nil)|((with_reducible apply u_q);(iterate 4 exact rfl)))|((with_reducible apply t_id);first|(apply t_region;kernel_rfl))|with_reducible apply q_thenN|with_reducible apply q_blockN)
   all_goals (refine ⟨(2*s,D2),⟨(by simp only;omega),(by simp only;omega),hD2⟩,(by simp only;omega),?_,?_⟩)
   all_goals first
     | ((try simp only [List.cons_append,List.nil_append]);(repeat (first|exact FrSub.nil|(apply FrSub.cons;exact rfl)|(apply FrSub.consE;exact rfl;(congr 2;first|omega|(simp only;omega)|(simp only [List.length_nil];omega)|(simp only [List.length_append];omega)))));done)
     | ((try simp only [List.cons_append,List.nil_append]);(repeat (first|exact HpSub.refl _|(apply HpSub.consE;(repeat first|exact P0|apply P1);exact rfl)|exact HpSub.nil));done)
 · rw [← show D=srt lt L from hD.small (by omega)]
   repeat' (first|((with_reducible apply oq_id);first|((with_reducible apply oq_lssF);exact rfl;exact rfl;omega)|(apply oq_fn;exact rfl;first|exact trivial|(and_intros<;>omega)|omega|skip))|((with_reducible apply tl_id);first|(with_reducible apply tl_nil)|((with_reducible apply u_q);(iterate 4 exact rfl)))|((with_reducible apply t_id);first|(with_reducible apply t_seq)|(apply t_region;kernel_rfl)|((with_reducible apply t_condF);exact rfl)|(with_reducible apply t_exit))|with_reducible apply q_thenN|with_reducible apply q_thenE|((with_reducible apply q_blockE);exact rfl)|(with_reducible apply end_normal)|exact rvs_nil)
   all_goals exact ⟨rfl,by (repeat (first|exact HpSub.refl _|(apply HpSub.consE;(repeat first|exact P0|apply P1);exact rfl)|exact HpSub.nil))⟩
theorem sortS_G {α:Type} {fx fy:α→Int} {lt:α→α→Bool} {kf:Nat} (hw:Wo lt) (HK:CmpOk fx fy lt kf) (g cp n:Nat) (L:List α) (w:World) (hB:Blk w g (coB fx fy L) (some (111,2,cp))) (hn:L.length=n) (hn1:n≤1000000) :
   Calls Try.prog 169 #[.slice (some ⟨g,0,none⟩) n cp,.func (.func kf) #[] #[]] w fun e w'=>e=.returned (.tuple #[])∧ExtM [g] w w'∧Blk w' g (coB fx fy (srt lt L)) (some (111,2,cp)):=by
 refine enterW (c:=cxM [g] w 9) Try.func169 rfl rfl rfl rfl hB ?_
 repeat' (first|((with_reducible apply oq_id);first|(apply oq_fn;exact rfl;first|exact trivial|(and_intros<;>omega)|omega|skip))|((with_reducible apply tl_id);first|(with_reducible apply tl_nil)|((with_reducible apply u_s);(iterate 3 exact rfl);(with_reducible apply os_callW (b:=g) (hc:=Try.call191));exact rfl;exact rfl;(repeat first|exact P0|apply P1);exact fun D w1 hw1=>stable_G hw HK g cp n L w1 (hw1.blkP (by (repeat first|exact P0|apply P1))) hn hn1)|((with_reducible apply u_q);(iterate 4 exact rfl)))|((with_reducible apply t_id);first|(apply t_region;kernel_rfl))|(with_reducible apply end_normal)|exact rvs_nil)
 all_goals exact ⟨rfl,by (repeat (first|exact HpSub.refl _|(apply HpSub.consE;(repeat first|exact P0|apply P1);exact rfl)|exact HpSub.nil))⟩
end Go.Proofs.Ytcjkndjjbjoehaa
namespace Go.Proofs.Ytcjkndjjbjoehaa
open Go.RowKit
theorem os_appendNN {c:Cx} {F:Fr} {H:Hp} {K:Value→Hp→Prop} {d:Option Tmp} {ty:TypeId} {pos:String} {af:Array Edge} {g:Option (Nat×Bool)} {s x:Operand} {t e size bytes:Nat} (hk:AppOk c.P t e size bytes) (hs:ev F s=some (.slice none 0 0)) (hx:ev F x=some (.slice none 0 0)) (k:K (.slice none 0 0) H):OS c ⟨d,.call ⟨.builtin .append,#[s,x],#[t,t]⟩,ty,pos,af,g⟩ F H K:=by
 intro D a w ha hw
 obtain ⟨i,z,k1,k2,k3,k4,k5⟩:=hk.info
 have ht:=hk.und
 have e1:=ha.ev hs
 have e2:=ha.ev hx
 have e3:(execOp a.eval ⟨d,.call ⟨.builtin .append,#[s,x],#[t,t]⟩,ty,pos,af,g⟩).run c.P w=.ok (.value (.slice none 0 0)) w:=by
   simp [execOp,resolve,invoke,builtin,Sem.run_bind,Sem.run_pure,Result.andThen,e1,e2,Builtin.append_,run_underlying ht,sizeOf,typeInfo,k1,Builtin.lenOf,Builtin.firstCells,loadCells,loadCellsFrom,storeCells]
 rw [e3]
 exact ⟨_,k,hw⟩
end Go.Proofs.Ytcjkndjjbjoehaa
namespace Go.Proofs.Ytcjkndjjbjoehaa
open Go.RowKit
attribute [local irreducible] OQ OS OX Rd T TL GX GL AL AI RV wpG SAny Calls
theorem grow0_calls (w:World):Calls Try.prog 190 #[.slice none 0 0,.int .i64 0] w fun e w'=>e=.returned (.slice none 0 0)∧Ext w w':=by
 refine enterQ (c:=cx w 27) Try.func190 rfl rfl rfl rfl ?_
 repeat' (first|((with_reducible apply oq_id);first|((with_reducible apply oq_cap);exact rfl;exact rfl)|((with_reducible apply oq_gtrF);exact rfl;exact rfl;omega)|((with_reducible apply oq_lssF);exact rfl;exact rfl;omega)|(apply oq_fn;exact rfl;first|exact trivial|(and_intros<;>omega)|omega|skip))|((with_reducible apply tl_id);first|(with_reducible apply tl_nil)|((with_reducible apply u_q);(iterate 4 exact rfl)))|((with_reducible apply t_id);first|(with_reducible apply t_seq)|(apply t_region;kernel_rfl)|((with_reducible apply t_condF);exact rfl)|(with_reducible apply t_ret)|(with_reducible apply t_skip))|with_reducible apply q_thenN|(with_reducible apply end_ret)|exact rvs_nil|(with_reducible apply rvs_cons)|((with_reducible apply rv_tmp);exact rfl))
 all_goals rfl
theorem ins0_calls (w:World):Calls Try.prog 196 #[.slice none 0 0,.int .i64 0,.int .i64 0,.func (.func 170) #[] #[]] w fun e w'=>e=.returned (.tuple #[])∧Ext w w':=by
 refine enterQ (c:=cx w 53) Try.func196 rfl rfl rfl rfl ?_
 refine t_cut (ι:=Unit) (fun _=>[(2,.int .i64 0),(8,.int .i64 1)]) (fun _=>([]:Hp)) (fun _=>True) ?_ ?_
 · repeat' (first|((with_reducible apply oq_id);first|(apply oq_fn;exact rfl;first|exact trivial|(and_intros<;>omega)|omega|skip))|((with_reducible apply tl_id);first|(with_reducible apply tl_nil)|((with_reducible apply u_q);(iterate 4 exact rfl)))|((with_reducible apply t_id);first|(apply t_region;kernel_rfl)))
   all_goals exact ⟨by trivial,(),trivial,by (repeat' (first|exact FrSub.nil|(apply FrSub.cons;exact rfl))),by (repeat' (first|exact HpSub.refl _))⟩
 rintro ⟨⟩ -
 try dsimp only
 (with_reducible apply t_block)
 apply t_loopP (ι:=Unit) [2] (fun _=>[(8,.int .i64 1)]) (fun _=>[]) (fun _=>True) (fun _=>0) (())
 (repeat (first|exact KeepF.nil|(apply KeepF.cons;exact rfl)|apply KeepF.skip))
 (repeat first|exact FrSub.nil|(apply FrSub.cons;exact rfl))
 (try simp only [List.cons_append,List.nil_append])
 (repeat' (first|exact HpSub.refl _))
 · trivial
 rintro ⟨⟩ -
 try simp only [List.cons_append,List.nil_append]
 repeat' (first|((with_reducible apply oq_id);first|((with_reducible apply oq_lssF);exact rfl;exact rfl;omega)|(apply oq_fn;exact rfl;first|exact trivial|(and_intros<;>omega)|omega|skip))|((with_reducible apply tl_id);first|(with_reducible apply tl_nil)|((with_reducible apply u_q);(iterate 4 exact rfl)))|((with_reducible apply t_id);first|(with_reducible apply t_seq)|(apply t_region;kernel_rfl)|((with_reducible apply t_condF);exact rfl)|(with_reducible apply t_exit))|with_reducible apply q_thenN|with_reducible apply q_thenE|((with_reducible apply q_blockE);exact rfl)|(with_reducible apply end_normal)|exact rvs_nil)
 all_goals rfl
theorem stable0_calls (w:World):Calls Try.prog 191 #[.slice none 0 0,.int .i64 0,.func (.func 170) #[] #[]] w fun e w'=>e=.returned (.tuple #[])∧Ext w w':=by
 refine enterQ (c:=cx w 63) Try.func191 rfl rfl rfl rfl ?_
 refine t_cut (ι:=Unit) (fun _=>[(0,.slice none 0 0),(1,.int .i64 0),(2,.func (.func 170) #[] #[]),(6,.int .i64 20)]) (fun _=>([]:Hp)) (fun _=>True) ?_ ?_
 · repeat' (first|((with_reducible apply oq_id);first|(apply oq_fn;exact rfl;first|exact trivial|(and_intros<;>omega)|omega|skip))|((with_reducible apply tl_id);first|(with_reducible apply tl_nil)|((with_reducible apply u_q);(iterate 4 exact rfl)))|((with_reducible apply t_id);first|(apply t_region;kernel_rfl)))
   all_goals exact ⟨by trivial,(),trivial,by (repeat' (first|exact FrSub.nil|(apply FrSub.cons;exact rfl))),by (repeat' (first|exact HpSub.refl _))⟩
 rintro ⟨⟩ -
 try dsimp only
 refine t_cut (ι:=Unit) (fun _=>[(0,.slice none 0 0),(1,.int .i64 0),(2,.func (.func 170) #[] #[]),(6,.int .i64 20),(7,.int .i64 0),(8,.int .i64 20)]) (fun _=>([]:Hp)) (fun _=>True) ?_ ?_
 · repeat' (first|((with_reducible apply oq_id);first|(apply oq_fn;exact rfl;first|exact trivial|(and_intros<;>omega)|omega|skip))|((with_reducible apply tl_id);first|(with_reducible apply tl_nil)|((with_reducible apply u_q);(iterate 4 exact rfl)))|((with_reducible apply t_id);first|(apply t_region;kernel_rfl)))
   all_goals exact ⟨by trivial,(),trivial,by (repeat' (first|exact FrSub.nil|(apply FrSub.cons;exact rfl))),by (repeat' (first|exact HpSub.refl _))⟩
 rintro ⟨⟩ -
 try dsimp only
 (with_reducible apply t_seq)
 (with_reducible apply t_block)
 apply t_loopP (ι:=Unit) [0,1,2,6,7] (fun _=>[(8,.int .i64 20)]) (fun _=>[]) (fun _=>True) (fun _=>0) (())
 (repeat (first|exact KeepF.nil|(apply KeepF.cons;exact rfl)|apply KeepF.skip))
 (repeat first|exact FrSub.nil|(apply FrSub.cons;exact rfl))
 (try simp only [List.cons_append,List.nil_append])
 (repeat' (first|exact HpSub.refl _))
 · trivial
 rintro ⟨⟩ -
 try simp only [List.cons_append,List.nil_append]
 repeat' (first|((with_reducible apply oq_id);first|((with_reducible apply oq_leqF);exact rfl;exact rfl;omega)|(apply oq_fn;exact rfl;first|exact trivial|(and_intros<;>omega)|omega|skip)|((with_reducible apply oq_call (hc:=Try.call196));exact rfl;exact rfl;exact fun D w1 hw1=>ins0_calls w1))|((with_reducible apply tl_id);first|(with_reducible apply tl_nil)|((with_reducible apply u_q);(iterate 4 exact rfl)))|((with_reducible apply t_id);first|(with_reducible apply t_seq)|(apply t_region;kernel_rfl)|((with_reducible apply t_condF);exact rfl)|(with_reducible apply t_exit)|(with_reducible apply t_block))|with_reducible apply q_thenN|with_reducible apply q_thenE|((with_reducible apply q_blockE);exact rfl))
 apply t_loopP (ι:=Unit) [1] (fun _=>[(6,.int .i64 20)]) (fun _=>[]) (fun _=>True) (fun _=>0) (())
 (repeat (first|exact KeepF.nil|(apply KeepF.cons;exact rfl)|apply KeepF.skip))
 (repeat first|exact FrSub.nil|(apply FrSub.cons;exact rfl))
 (try simp only [List.cons_append,List.nil_append])
 (repeat' (first|exact HpSub.refl _))
 · trivial
 rintro ⟨⟩ -
 try simp only [List.cons_append,List.nil_append]
 repeat' (first|((with_reducible apply oq_id);first|((with_reducible apply oq_lssF);exact rfl;exact rfl;omega)|(apply oq_fn;exact rfl;first|exact trivial|(and_intros<;>omega)|omega|skip))|((with_reducible apply tl_id);first|(with_reducible apply tl_nil)|((with_reducible apply u_q);(iterate 4 exact rfl)))|((with_reducible apply t_id);first|(with_reducible apply t_seq)|(apply t_region;kernel_rfl)|((with_reducible apply t_condF);exact rfl)|(with_reducible apply t_exit))|with_reducible apply q_thenN|with_reducible apply q_thenE|((with_reducible apply q_blockE);exact rfl)|(with_reducible apply end_normal)|exact rvs_nil)
 all_goals rfl
theorem sort0_calls (w:World):Calls Try.prog 169 #[.slice none 0 0,.func (.func 170) #[] #[]] w fun e w'=>e=.returned (.tuple #[])∧Ext w w':=by
 refine enterQ (c:=cx w 9) Try.func169 rfl rfl rfl rfl ?_
 repeat' (first|((with_reducible apply oq_id);first|(apply oq_fn;exact rfl;first|exact trivial|(and_intros<;>omega)|omega|skip)|((with_reducible apply oq_call (hc:=Try.call191));exact rfl;exact rfl;exact fun D w1 hw1=>stable0_calls w1))|((with_reducible apply tl_id);first|(with_reducible apply tl_nil)|((with_reducible apply u_q);(iterate 4 exact rfl)))|((with_reducible apply t_id);first|(apply t_region;kernel_rfl))|(with_reducible apply end_normal)|exact rvs_nil)
 all_goals rfl
theorem concat0_calls (A c:Nat) (w:World) (c0:w.cell? ⟨A,0,none⟩=some (.slice none 0 0)) (c1:w.cell? ⟨A,1,none⟩=some (.slice none 0 0)):Calls Try.prog 167 #[.slice (some ⟨A,0,none⟩) 2 c] w fun e w'=>e=.returned (.slice none 0 0)∧Ext w w':=by
 refine enterQ (c:=cx w 36) Try.func167 rfl rfl rfl rfl ?_
 repeat' (first|((with_reducible apply oq_id);first|(apply oq_fn;exact rfl;first|exact trivial|(and_intros<;>omega)|omega|skip))|((with_reducible apply tl_id);first|(with_reducible apply tl_nil)|((with_reducible apply u_q);(iterate 4 exact rfl)))|((with_reducible apply t_id);first|(with_reducible apply t_seq)|(apply t_region;kernel_rfl)|(with_reducible apply t_block))|with_reducible apply q_thenN)
 apply t_loopK (ι:=Nat) [0,9,10] (fun k=>[(11,.int .i64 ((k:Nat):Int)),(3,.int .i64 0)]) (fun _=>[]) (fun k=>k≤2) (fun k=>2-k) (0)
 (repeat (first|exact KeepF.nil|(apply KeepF.cons;exact rfl)|apply KeepF.skip))
 (repeat first|exact FrSub.nil|(apply FrSub.cons;exact rfl))
 (repeat (first|exact HpSub.refl _|(apply HpSub.consE;(repeat first|exact P0|apply P1);exact rfl)|exact HpSub.nil))
 · exact Nat.zero_le _
 rintro k hk
 try simp only [List.cons_append,List.nil_append]
 by_cases hlt:k<2
 · rcases (show k=0∨k=1 by omega) with rfl|rfl
   · repeat' (first|((with_reducible apply oq_id);first|(focus ((with_reducible apply oq_indexAddrN (i:=0));(iterate 4 exact rfl);omega))|(focus ((with_reducible apply (oq_addE (k:=((0+1:Nat):Int))));exact rfl;exact rfl;omega))|((with_reducible apply oq_lssT);exact rfl;exact rfl;omega)|((with_reducible apply oq_lssF);exact rfl;exact rfl;omega)|(apply oq_fn;exact rfl;first|exact trivial|(and_intros<;>omega)|omega|skip)|((with_reducible apply oq_load);exact rfl;exact rfl))|((with_reducible apply tl_id);first|(with_reducible apply tl_nil)|((with_reducible apply u_q);(iterate 4 exact rfl)))|((with_reducible apply rd_id);first|(apply Rd.old;(first|(with_reducible assumption)|exact c0|exact c1|exact c2|exact c3|exact c4|exact c5|exact c6|exact c7|exact c8|exact d0|exact d1|exact d2|exact d3|exact d4|exact d5);first|exact List.not_mem_nil|exact m0|exact m1|exact m2|exact m3|exact m4|exact m5|exact m6|exact m7|exact m8|exact m9))|((with_reducible apply t_id);first|(with_reducible apply t_seq)|(apply t_region;kernel_rfl)|((with_reducible apply t_condT);exact rfl)|((with_reducible apply t_condF);exact rfl)|(with_reducible apply t_skip)|(with_reducible apply t_block))|with_reducible apply q_thenN|with_reducible apply q_blockN)
     all_goals (refine ⟨0+1,by omega,by omega,?_,?_⟩<;>(repeat' (first|exact FrSub.nil|(apply FrSub.cons;exact rfl)|exact HpSub.refl _)))
   · repeat' (first|((with_reducible apply oq_id);first|(focus ((with_reducible apply oq_indexAddrN (i:=1));(iterate 4 exact rfl);omega))|(focus ((with_reducible apply (oq_addE (k:=((1+1:Nat):Int))));exact rfl;exact rfl;omega))|((with_reducible apply oq_lssT);exact rfl;exact rfl;omega)|((with_reducible apply oq_lssF);exact rfl;exact rfl;omega)|(apply oq_fn;exact rfl;first|exact trivial|(and_intros<;>omega)|omega|skip)|((with_reducible apply oq_load);exact rfl;exact rfl))|((with_reducible apply tl_id);first|(with_reducible apply tl_nil)|((with_reducible apply u_q);(iterate 4 exact rfl)))|((with_reducible apply rd_id);first|(apply Rd.old;(first|(with_reducible assumption)|exact c0|exact c1|exact c2|exact c3|exact c4|exact c5|exact c6|exact c7|exact c8|exact d0|exact d1|exact d2|exact d3|exact d4|exact d5);first|exact List.not_mem_nil|exact m0|exact m1|exact m2|exact m3|exact m4|exact m5|exact m6|exact m7|exact m8|exact m9))|((with_reducible apply t_id);first|(with_reducible apply t_seq)|(apply t_region;kernel_rfl)|((with_reducible apply t_condT);exact rfl)|((with_reducible apply t_condF);exact rfl)|(with_reducible apply t_skip)|(with_reducible apply t_block))|with_reducible apply q_thenN|with_reducible apply q_blockN)
     all_goals (refine ⟨1+1,by omega,by omega,?_,?_⟩<;>(repeat' (first|exact FrSub.nil|(apply FrSub.cons;exact rfl)|exact HpSub.refl _)))
 obtain rfl:k=2:=by omega
 repeat' (first|((with_reducible apply oq_id);first|((with_reducible apply oq_lssF);exact rfl;exact rfl;omega)|(apply oq_fn;exact rfl;first|exact trivial|(and_intros<;>omega)|omega|skip)|((with_reducible apply oq_call (hc:=Try.call190));exact rfl;exact rfl;exact fun D w1 hw1=>grow0_calls w1))|((with_reducible apply tl_id);first|(with_reducible apply tl_nil)|((with_reducible apply u_q);(iterate 4 exact rfl)))|((with_reducible apply t_id);first|(with_reducible apply t_seq)|(apply t_region;kernel_rfl)|((with_reducible apply t_condF);exact rfl)|(with_reducible apply t_exit)|(with_reducible apply t_block))|with_reducible apply q_thenN|with_reducible apply q_thenE|((with_reducible apply q_blockE);exact rfl))
 apply t_loopK (ι:=Nat) [0,25,26] (fun k=>[(27,.int .i64 ((k:Nat):Int)),(6,.slice none 0 0)]) (fun _=>[]) (fun k=>k≤2) (fun k=>2-k) (0)
 (repeat (first|exact KeepF.nil|(apply KeepF.cons;exact rfl)|apply KeepF.skip))
 (repeat first|exact FrSub.nil|(apply FrSub.cons;exact rfl))
 (repeat (first|exact HpSub.refl _|(apply HpSub.consE;(repeat first|exact P0|apply P1);exact rfl)|exact HpSub.nil))
 · exact Nat.zero_le _
 rintro k hk
 try simp only [List.cons_append,List.nil_append]
 by_cases hlt:k<2
 · rcases (show k=0∨k=1 by omega) with rfl|rfl
   · repeat' (first|((with_reducible apply oq_id);first|(focus ((with_reducible apply oq_indexAddrN (i:=0));(iterate 4 exact rfl);omega))|(focus ((with_reducible apply (oq_addE (k:=((0+1:Nat):Int))));exact rfl;exact rfl;omega))|((with_reducible apply oq_lssT);exact rfl;exact rfl;omega)|(apply oq_fn;exact rfl;first|exact trivial|(and_intros<;>omega)|omega|skip)|((with_reducible apply oq_load);exact rfl;exact rfl))|((with_reducible apply tl_id);first|(with_reducible apply tl_nil)|((with_reducible apply u_s);(iterate 3 exact rfl);(with_reducible apply (os_appendNN (hk:=app_ok101)));exact rfl;exact rfl)|((with_reducible apply u_q);(iterate 4 exact rfl)))|((with_reducible apply rd_id);first|(apply Rd.old;(first|(with_reducible assumption)|exact c0|exact c1|exact c2|exact c3|exact c4|exact c5|exact c6|exact c7|exact c8|exact d0|exact d1|exact d2|exact d3|exact d4|exact d5);first|exact List.not_mem_nil|exact m0|exact m1|exact m2|exact m3|exact m4|exact m5|exact m6|exact m7|exact m8|exact m9))|((with_reducible apply t_id);first|(with_reducible apply t_seq)|(apply t_region;kernel_rfl)|((with_reducible apply t_condT);exact rfl)|(with_reducible apply t_skip)|(with_reducible apply t_block))|with_reducible apply q_thenN|with_reducible apply q_blockN)
     all_goals (refine ⟨0+1,by omega,by omega,?_,?_⟩<;>(repeat' (first|exact FrSub.nil|(apply FrSub.cons;exact rfl)|exact HpSub.refl _)))
   · repeat' (first|((with_reducible apply oq_id);first|(focus ((with_reducible apply oq_indexAddrN (i:=1));(iterate 4 exact rfl);omega))|(focus ((with_reducible apply (oq_addE (k:=((1+1:Nat):Int))));exact rfl;exact rfl;omega))|((with_reducible apply oq_lssT);exact rfl;exact rfl;omega)|(apply oq_fn;exact rfl;first|exact trivial|(and_intros<;>omega)|omega|skip)|((with_reducible apply oq_load);exact rfl;exact rfl))|((with_reducible apply tl_id);first|(with_reducible apply tl_nil)|((with_reducible apply u_s);(iterate 3 exact rfl);(with_reducible apply (os_appendNN (hk:=app_ok101)));exact rfl;exact rfl)|((with_reducible apply u_q);(iterate 4 exact rfl)))|((with_reducible apply rd_id);first|(apply Rd.old;(first|(with_reducible assumption)|exact c0|exact c1|exact c2|exact c3|exact c4|exact c5|exact c6|exact c7|exact c8|exact d0|exact d1|exact d2|exact d3|exact d4|exact d5);first|exact List.not_mem_nil|exact m0|exact m1|exact m2|exact m3|exact m4|exact m5|exact m6|exact m7|exact m8|exact m9))|((with_reducible apply t_id);first|(with_reducible apply t_seq)|(apply t_region;kernel_rfl)|((with_reducible apply t_condT);exact rfl)|(with_reducible apply t_skip)|(with_reducible apply t_block))|with_reducible apply q_thenN|with_reducible apply q_blockN)
     all_goals (refine ⟨1+1,by omega,by omega,?_,?_⟩<;>(repeat' (first|exact FrSub.nil|(apply FrSub.cons;exact rfl)|exact HpSub.refl _)))
 obtain rfl:k=2:=by omega
 repeat' (first|((with_reducible apply oq_id);first|((with_reducible apply oq_lssF);exact rfl;exact rfl;omega)|(apply oq_fn;exact rfl;first|exact trivial|(and_intros<;>omega)|omega|skip))|((with_reducible apply tl_id);first|(with_reducible apply tl_nil)|((with_reducible apply u_q);(iterate 4 exact rfl)))|((with_reducible apply t_id);first|(with_reducible apply t_seq)|(apply t_region;kernel_rfl)|((with_reducible apply t_condF);exact rfl)|(with_reducible apply t_ret)|(with_reducible apply t_exit))|with_reducible apply q_thenN|with_reducible apply q_thenE|((with_reducible apply q_blockE);exact rfl)|(with_reducible apply end_ret)|exact rvs_nil|(with_reducible apply rvs_cons)|((with_reducible apply rv_tmp);exact rfl))
 all_goals rfl
abbrev Bv:={u:Pv // u≠⟨0,0⟩∧Bd 1073741824 u}
def bvS (u:Bv):Sv:=⟨u.1,u.2.1⟩
def ltB (u v:Bv):Bool:=ltS2 (bvS u) (bvS v)
theorem woB:Wo ltB:=⟨fun a b h=>woA.asym _ _ h,fun a b c h k=>woA.tr _ _ _ h k⟩
theorem cmpB:CmpOk (fun u:Bv=>u.1.x) (fun u:Bv=>u.1.y) ltB 170:=by
 refine ⟨fun a w=>Try.call170 a w,fun x y=>⟨_,fun w1=>sideOrd_calls x.1 y.1 x.2.2 y.2.2 w1,?_⟩⟩
 show _↔ltA x.1 y.1=true
 rw [ltA_iff]
 rcases half_01 x.1 with ⟨e1,_⟩|⟨e1,_⟩<;>rcases half_01 y.1 with ⟨e2,_⟩|⟨e2,_⟩<;>rw [e1,e2]<;>unfold ordV<;>repeat' split
 all_goals omega
theorem lift_bv:∀ {X:List Pv},(∀ u∈X,u≠⟨0,0⟩∧Bd 1073741824 u)→∃ X':List Bv,X'.map Subtype.val=X
 | [],_=>⟨[],rfl⟩
 | u::X,h=>by
   obtain ⟨X',e⟩:=lift_bv fun v hv=>h v (List.mem_cons_of_mem _ hv)
   exact ⟨⟨u,h u (List.mem_cons_self ..)⟩::X',by rw [List.map_cons,e]⟩
theorem bv_cells (l:List Bv):coB (fun u:Bv=>u.1.x) (fun u:Bv=>u.1.y) l=coB Pv.x Pv.y (l.map Subtype.val):=by
 simp only [coB,List.map_map];rfl
theorem sortB_calls (g cp n:Nat) (T:List Pv) (hT:∀ u∈T,u≠⟨0,0⟩∧Bd 1073741824 u) (LL:List Sv) (hLL:LL.map Subtype.val=T) (w:World) (hB:Blk w g (coB Pv.x Pv.y T) (some (111,2,cp))) (hn:T.length=n) (hn1:n≤1000000) :
   Calls Try.prog 169 #[.slice (some ⟨g,0,none⟩) n cp,.func (.func 170) #[] #[]] w fun e w'=>e=.returned (.tuple #[])∧ExtM [g] w w'∧Blk w' g (coB Pv.x Pv.y ((srt ltS2 LL).map Subtype.val)) (some (111,2,cp)):=by
 obtain ⟨X,hX⟩:=lift_bv hT
 have hXL:X.map bvS=LL:=val_inj (by rw [List.map_map,hLL,← hX];rfl)
 have h:=sortS_G woB cmpB g cp n X w (by rw [bv_cells,hX];exact hB) (by rw [← hn,← hX,List.length_map]) hn1
 rw [bv_cells] at h
 have e:(srt ltB X).map Subtype.val=(srt ltS2 LL).map Subtype.val:=by
   rw [← hXL,srt_map (lt:=ltB) bvS (fun a b=>rfl),List.map_map]
   rfl
 rw [e] at h
 exact h
theorem two_rows {w0:World} {M:Ms} {H H':Hp} {w:World} {g:Nat} {a b:Value} {tg:Tg} (h:Has w0 M H w) (q:Pick H g [a,b] tg H'):RdS w 1 (some ⟨g,0,none⟩) 2 [[a],[b]]:=
 Blk.rows (h.blk _ q.mem).2 rfl (by simp)
theorem nil_rd (w:World):RdS w 2 none 0 (([]:List Pv).map (coC Pv.x Pv.y)):=⟨rfl,fun h=>absurd h (by omega)⟩
theorem Rg.fst {r:List Pv} {a:Pv} {E F:List Pv} (h:Rg r a E F):r[0]?=some a:=by
 rcases h.len0 with ⟨hE,_,_⟩|⟨hE,_,h2⟩
 · rw [h.one hE];rfl
 · rw [h.at_ hE (by omega),List.take_zero]
   show some (Pv.add a ⟨0,0⟩)=_
   rw [add_zero]
theorem side_bd {r:List Pv} {a:Pv} {E F:List Pv} (h:Rg r a E F) (hb:∀ q∈r,Bd 268435456 q) {u:Pv} (hu:u∈E++F):Bd 536870912 u:=by
 rcases h.len0 with ⟨hE,hF,_⟩|⟨hE,hl,_⟩
 · subst hE hF;cases hu
 · obtain ⟨i,hi⟩:=List.getElem?_of_mem hu
   have hlt:=(List.getElem?_eq_some_iff.1 hi).1
   obtain ⟨x,hx⟩:∃ x,r[i]?=some x:=⟨_,List.getElem?_eq_getElem (by omega)⟩
   have k1:=hb _ (List.mem_of_getElem? hx)
   have k2:=hb _ (List.mem_of_getElem? (h.nxt hE hx hi))
   unfold Bd Pv.add at *
   simp only at k2
   omega
theorem sum_P (pb po n c:Nat) (L:List Pv) (hl:L.length=n) (hL:RgOk L) {a:Pv} {E F:List Pv} (rg:Rg L a E F) (qb qo m cm:Nat) (M:List Pv) (hm:M.length=m) (hM:RgOk M) {b:Pv} {G G2:List Pv} (sg:Rg M b G G2) (LL:List Sv) (hLL:LL.map Subtype.val=(E++F)++(G++G2)) (hc:(E++F).length+(G++G2).length≤48) (w:World) (hr:RdS w 2 (some ⟨pb,po,none⟩) n (L.map (coC Pv.x Pv.y))) (hs:RdS w 2 (some ⟨qb,qo,none⟩) m (M.map (coC Pv.x Pv.y))) :
   Calls Try.prog 139 #[.slice (some ⟨pb,po,none⟩) n c,.slice (some ⟨qb,qo,none⟩) m cm] w fun e w'=>∃ v H1,e=.returned v∧(∃ g cp D,D.Pairwise (fun a b=>ltP a b=true)∧(∀ q,q∈D↔q∈path (Pv.add a b) ((srt ltS2 LL).map Subtype.val))∧v=.slice (some ⟨g,0,none⟩) (hulI D).length cp∧H1=[(g,coB Pv.x Pv.y (hulI D),some (111,2,cp))])∧Has w ⟨[],[]⟩ H1 w':=by
 have hn5:=hL.len
 have hm5:=hM.len
 have S1:=fun w1 (e:Ext w w1)=>sides_P pb po n c L hl (by omega) hL.bd rg w1 (hr.ext e)
 have S2:=fun w1 (e:Ext w w1)=>sides_P qb qo m cm M hm (by omega) hM.bd sg w1 (hs.ext e)
 have hT:∀ u∈(E++F)++(G++G2),u≠⟨0,0⟩∧Bd 1073741824 u:=fun u hu=>by
   rcases List.mem_append.1 hu with hu|hu
   · exact ⟨rg.nz u hu,by have:=side_bd rg hL.bd hu;unfold Bd at *;omega⟩
   · exact ⟨sg.nz u hu,by have:=side_bd sg hM.bd hu;unfold Bd at *;omega⟩
 obtain ⟨p1,_⟩:=sum_ok rg sg hLL
 have hMl:((srt ltS2 LL).map Subtype.val).length=((E++F)++(G++G2)).length:=by rw [List.length_map,srt_len,← hLL,List.length_map]
 have f1:=rg.fst
 have f2:=sg.fst
 obtain ⟨c0,c1⟩:=pv_row hr f1
 obtain ⟨c2,c3⟩:=pv_row hs f2
 have ha:=hL.bd a (List.mem_of_getElem? f1)
 have hb:=hM.bd b (List.mem_of_getElem? f2)
 have hn0:0<n:=by rw [← hl];exact (List.getElem?_eq_some_iff.1 f1).1
 have hm0:0<m:=by rw [← hm];exact (List.getElem?_eq_some_iff.1 f2).1
 obtain ⟨T1,hT1⟩:∃ T,E++F=T:=⟨_,rfl⟩
 obtain ⟨T2,hT2⟩:∃ T,G++G2=T:=⟨_,rfl⟩
 obtain ⟨MM,hMM⟩:∃ T,(srt ltS2 LL).map Subtype.val=T:=⟨_,rfl⟩
 obtain ⟨s,hs0⟩:∃ p,Pv.add a b=p:=⟨_,rfl⟩
 rw [hT1] at S1 hT hLL hMl hc
 rw [hT2] at S2 hT hLL hMl hc
 rw [hMM,hs0] at p1
 rw [hMM] at hMl
 rw [hMM,hs0]
 have hsx:a.x+b.x=s.x:=by rw [← hs0];rfl
 have hsy:a.y+b.y=s.y:=by rw [← hs0];rfl
 have hpath:∀ q∈path s MM,Bd 536870912 q:=fun q hq=>by
   obtain ⟨x,hx,y,hy,rfl⟩:=p1 q hq
   have k1:=hL.bd x hx
   have k2:=hM.bd y hy
   unfold Bd Pv.add at *
   simp only
   omega
 have hsb:=hpath s (mem_path_hd _ _)
 unfold Bd at ha hb hsb
 rw [List.length_append] at hMl
 refine enterF (c:=cx w 63) Try.func139 rfl rfl rfl rfl ?_
 refine t_cut (ι:=Unit) (fun _=>[(0,.slice (some ⟨pb,po,none⟩) n c),(1,.slice (some ⟨qb,qo,none⟩) m cm)]) (fun _=>([]:Hp)) (fun _=>True) ?_ ?_
 · repeat' (first|((with_reducible apply oq_id);first|(apply oq_fn;exact rfl;first|exact trivial|(and_intros<;>omega)|omega|skip))|((with_reducible apply tl_id);first|(with_reducible apply tl_nil)|((with_reducible apply u_q);(iterate 4 exact rfl)))|((with_reducible apply t_id);first|(apply t_region;kernel_rfl)))
   all_goals exact ⟨by trivial,(),trivial,by (repeat' (first|exact FrSub.nil|(apply FrSub.cons;exact rfl))),by (repeat' (first|exact HpSub.refl _))⟩
 rintro ⟨⟩ -
 try dsimp only
 by_cases h0:T1=[]∧T2=[]
 · obtain ⟨rfl,rfl⟩:=h0
   refine t_cut (ι:=Unit) (fun _=>[(0,.slice (some ⟨pb,po,none⟩) n c),(1,.slice (some ⟨qb,qo,none⟩) m cm),(5,.slice none 0 0)]) (fun _=>([]:Hp)) (fun _=>True) ?_ ?_
   · repeat' (first|((with_reducible apply oq_id);first|(apply oq_fn;exact rfl;first|exact trivial|(and_intros<;>omega)|omega|skip)|((with_reducible apply oq_call (hc:=Try.call167));exact rfl;exact rfl;exact fun D w1 hw1=>concat0_calls _ _ w1 (hw1.cellAt (by (repeat first|exact P0|apply P1)) rfl) (hw1.cellAt (by (repeat first|exact P0|apply P1)) rfl)))|((with_reducible apply tl_id);first|(with_reducible apply tl_nil)|((with_reducible apply u_s);(iterate 3 exact rfl);(with_reducible apply os_callF (PV:=SidV []) (hc:=Try.call168));exact rfl;exact rfl;exact fun D w1 hw1=>S1 w1 hw1.ext.ext;rintro _ _ (⟨_,rfl,rfl⟩|⟨e1,_⟩);rotate_left;exact absurd rfl e1;simp only [List.cons_append,List.nil_append])|((with_reducible apply u_s);(iterate 3 exact rfl);(with_reducible apply os_callF (PV:=SidV []) (hc:=Try.call168));exact rfl;exact rfl;exact fun D w1 hw1=>S2 w1 hw1.ext.ext;rintro _ _ (⟨_,rfl,rfl⟩|⟨e2,_⟩);rotate_left;exact absurd rfl e2;simp only [List.cons_append,List.nil_append])|((with_reducible apply u_q);(iterate 4 exact rfl))|((with_reducible apply u_s);(iterate 3 exact rfl)))|((with_reducible apply os_id);first|((with_reducible apply os_x);exact rfl))|((with_reducible apply ox_id);first|((with_reducible apply ox_buildSlice1);(iterate 6 exact rfl);intro _))|((with_reducible apply t_id);first|(apply t_region;kernel_rfl)))
     all_goals exact ⟨by trivial,(),trivial,by (repeat' (first|exact FrSub.nil|(apply FrSub.cons;exact rfl))),by (repeat' (first|exact HpSub.refl _|apply HpSub.skipX))⟩
   rintro ⟨⟩ -
   try dsimp only
   refine t_cut (ι:=Unit) (fun _=>[(0,.slice (some ⟨pb,po,none⟩) n c),(1,.slice (some ⟨qb,qo,none⟩) m cm),(5,.slice none 0 0)]) (fun _=>([]:Hp)) (fun _=>True) ?_ ?_
   · repeat' (first|((with_reducible apply oq_id);first|(apply oq_fn;exact rfl;first|exact trivial|(and_intros<;>omega)|omega|skip)|((with_reducible apply oq_call (hc:=Try.call169));exact rfl;exact rfl;exact fun D w1 hw1=>sort0_calls w1))|((with_reducible apply tl_id);first|(with_reducible apply tl_nil)|((with_reducible apply u_q);(iterate 4 exact rfl)))|((with_reducible apply t_id);first|(apply t_region;kernel_rfl)))
     all_goals exact ⟨by trivial,(),trivial,by (repeat' (first|exact FrSub.nil|(apply FrSub.cons;exact rfl))),by (repeat' (first|exact HpSub.refl _))⟩
   rintro ⟨⟩ -
   try dsimp only
   obtain rfl:MM=[]:=List.eq_nil_of_length_eq_zero (by rw [hMl];rfl)
   refine t_cut (ι:=Nat) (fun b6=>[(0,.slice (some ⟨pb,po,none⟩) n c),(1,.slice (some ⟨qb,qo,none⟩) m cm),(5,.slice none 0 0),(6,.pointer (some ⟨b6,0,none⟩))]) (fun b6=>[(b6,[.int .i64 s.x,.int .i64 s.y],some (111,2,1))]) (fun _=>True) ?_ ?_
   · repeat' (first|((with_reducible apply oq_id);first|(focus ((with_reducible apply (oq_indexAddrN (i:=0)));(iterate 4 exact rfl);omega))|(focus ((with_reducible apply (oq_addE (k:=s.x)));exact rfl;exact rfl;omega))|(focus ((with_reducible apply (oq_addE (k:=s.y)));exact rfl;exact rfl;omega))|(apply oq_fn;exact rfl;first|exact trivial|(and_intros<;>omega)|omega|skip)|((with_reducible apply oq_load);exact rfl;exact rfl)|((with_reducible apply oq_build);(iterate 3 exact rfl)))|((with_reducible apply gx_id);first|(with_reducible apply v_nil)|((with_reducible apply v_q);(iterate 3 exact rfl)))|((with_reducible apply os_id);first|((with_reducible apply os_storeAgg);(iterate 5 exact rfl)))|((with_reducible apply ox_id);first|((with_reducible apply ox_alloc);exact rfl;intro _))|((with_reducible apply ai_id);first|((with_reducible apply ai_x);(iterate 5 exact rfl))|((with_reducible apply ai_n0);(iterate 3 exact rfl)))|((with_reducible apply al_keep);focus (repeat (first|exact HpSub.refl _|(apply HpSub.cons;(repeat first|exact P0|apply P1))|apply HpSub.skipX|exact HpSub.nil)))|((with_reducible apply rd_id);first|(apply Rd.old;(first|(with_reducible assumption)|exact c0|exact c1|exact c2|exact c3|exact c4|exact c5|exact c6|exact c7|exact c8|exact d0|exact d1|exact d2|exact d3|exact d4|exact d5);first|exact List.not_mem_nil|exact m0|exact m1|exact m2|exact m3|exact m4|exact m5|exact m6|exact m7|exact m8|exact m9))|((with_reducible apply t_id);first|(apply t_mix (id:=3) [0,1,2,3,4,5,6,7,8,9,10,11,12,13,14,15,16,17,18] 2 #[false,false,false,false,false,false,false,false,false,false,false,false,false,false,false,false,false,false,false,false,false];kernel_rfl;kernel_rfl;exact rfl))|exact P0|((with_reducible apply Norm.nil);exact rfl)|((with_reducible apply Norm.cons);exact rfl)|((with_reducible apply al_id);first|(apply al_done;decide +kernel)|(apply al_one 19;decide +kernel)|(apply al_one 20;decide +kernel))|exact Nat.le_of_ble_eq_true rfl)
     all_goals exact ⟨by trivial,_,trivial,by (repeat' (first|exact FrSub.nil|(apply FrSub.cons;exact rfl))),by (repeat' (first|exact HpSub.refl _))⟩
   rintro b6 -
   try dsimp only
   refine t_cut (ι:=Nat×Nat) (fun z=>[(5,.slice none 0 0),(6,.pointer (some ⟨b6,0,none⟩)),(7,.slice (some ⟨z.1,0,none⟩) 1 z.2)]) (fun z=>[(z.1,coB Pv.x Pv.y [s],some (111,2,z.2)),(b6,[.int .i64 s.x,.int .i64 s.y],some (111,2,1))]) (fun _=>True) ?_ ?_
   · repeat' (first|((with_reducible apply oq_id);first|(apply oq_fn;exact rfl;first|exact trivial|(and_intros<;>omega)|omega|skip)|((with_reducible apply oq_loadAgg);exact rfl;exact rfl))|((with_reducible apply tl_id);first|(with_reducible apply tl_nil)|((with_reducible apply u_q);(iterate 4 exact rfl))|((with_reducible apply u_s);(iterate 3 exact rfl)))|((with_reducible apply os_id);first|((with_reducible apply os_x);exact rfl))|((with_reducible apply ox_id);first|((with_reducible apply ox_buildSlice2);(iterate 6 exact rfl);intro _))|((with_reducible apply rd_id);first|(apply Rd.own;(repeat first|exact P0|apply P1);exact rfl;done))|((with_reducible apply t_id);first|(apply t_region;kernel_rfl))|exact Rdn.zero|apply Rdn.succ)
     all_goals exact ⟨by trivial,(_,_),trivial,by (repeat' (first|exact FrSub.nil|(apply FrSub.cons;exact rfl))),by (repeat' (first|exact HpSub.refl _))⟩
   rintro ⟨g7,cp7⟩ -
   try dsimp only
   (with_reducible apply t_seq)
   refine t_cut (ι:=Unit) (fun _=>[(6,.pointer (some ⟨b6,0,none⟩)),(7,.slice (some ⟨g7,0,none⟩) 1 cp7),(39,.slice none 0 0),(40,.int .i64 ((0:Nat):Int)),(41,.int .i64 ((0:Nat):Int))]) (fun _=>[(g7,coB Pv.x Pv.y [s],some (111,2,cp7)),(b6,[.int .i64 s.x,.int .i64 s.y],some (111,2,1))]) (fun _=>True) ?_ ?_
   · repeat' (first|((with_reducible apply oq_id);first|(apply oq_fn;exact rfl;first|exact trivial|(and_intros<;>omega)|omega|skip))|((with_reducible apply tl_id);first|(with_reducible apply tl_nil)|((with_reducible apply u_q);(iterate 4 exact rfl)))|((with_reducible apply t_id);first|(apply t_region;kernel_rfl)))
     all_goals exact ⟨by trivial,(),trivial,by (repeat' (first|exact FrSub.nil|(apply FrSub.cons;exact rfl))),by (repeat' (first|exact HpSub.refl _))⟩
   rintro ⟨⟩ -
   try dsimp only
   (with_reducible apply t_block)
   apply t_loopP (ι:=Unit) [6,39,40] (fun _=>[(41,.int .i64 ((0:Nat):Int)),(7,.slice (some ⟨g7,0,none⟩) 1 cp7)]) (fun _=>[(g7,coB Pv.x Pv.y [s],some (111,2,cp7)),(b6,[.int .i64 s.x,.int .i64 s.y],some (111,2,1))]) (fun _=>True) (fun _=>0) (())
   (repeat (first|exact KeepF.nil|(apply KeepF.cons;exact rfl)|apply KeepF.skip))
   (repeat first|exact FrSub.nil|(apply FrSub.cons;exact rfl))
   (try simp only [List.cons_append,List.nil_append])
   (repeat' (first|exact HpSub.refl _))
   · trivial
   rintro ⟨⟩ -
   try simp only [List.cons_append,List.nil_append]
   have HHL:=fun w1 (h:RdS w1 2 (some ⟨g7,0,none⟩) 1 (([s]:List Pv).map (coC Pv.x Pv.y)))=>hull_P ⟨g7,0,none⟩ 1 cp7 [s] w1 h rfl (by omega) (by omega) hpath
   repeat' (first|((with_reducible apply oq_id);first|((with_reducible apply oq_lssF);exact rfl;exact rfl;omega)|(apply oq_fn;exact rfl;first|exact trivial|(and_intros<;>omega)|omega|skip))|((with_reducible apply tl_id);first|(with_reducible apply tl_nil)|((with_reducible apply u_s);(iterate 3 exact rfl);(with_reducible apply os_callF (PV:=fun v H'=>∃ g cp D,D.Pairwise (fun a b=>ltP a b=true)∧(∀ q,q∈D↔q∈[s])∧v=.slice (some ⟨g,0,none⟩) (hulI D).length cp∧H'=[(g,coB Pv.x Pv.y (hulI D),some (111,2,cp))]) (hc:=Try.call137));exact rfl;exact rfl;exact fun D w1 hw1=>HHL w1 (Blk.rows (hw1.blkP (by (repeat first|exact P0|apply P1))) rfl (co_rl _));rintro _ _ ⟨gh,ch,Dh,h3,h4,rfl,rfl⟩;simp only [List.cons_append,List.nil_append])|((with_reducible apply u_q);(iterate 4 exact rfl)))|((with_reducible apply t_id);first|(with_reducible apply t_seq)|(apply t_region;kernel_rfl)|((with_reducible apply t_condF);exact rfl)|(with_reducible apply t_ret)|(with_reducible apply t_exit))|with_reducible apply q_thenN|with_reducible apply q_thenE|((with_reducible apply q_blockE);exact rfl)|(with_reducible apply end_ret)|exact rvs_nil|(with_reducible apply rvs_cons)|((with_reducible apply rv_tmp);exact rfl))
   all_goals exact ⟨_,⟨gh,ch,Dh,h3,h4,rfl,rfl⟩,by (repeat' (first|exact HpSub.refl _|(apply HpSub.consE;(repeat first|exact P0|apply P1);first|exact rfl|(simp;done))|apply HpSub.skipX))⟩
 have hc0:0<T1.length+T2.length:=by
   rcases T1 with _|⟨x,T1⟩
   · rcases T2 with _|⟨y,T2⟩
     · exact absurd ⟨rfl,rfl⟩ h0
     · simp only [List.length_cons];omega
   · simp only [List.length_cons];omega
 have hc1:T1.length+T2.length≤1000000:=by omega
 obtain ⟨N,hN⟩:∃ k,T1.length+T2.length=k:=⟨_,rfl⟩
 refine t_cut (ι:=Nat×Nat) (fun z=>[(0,.slice (some ⟨pb,po,none⟩) n c),(1,.slice (some ⟨qb,qo,none⟩) m cm),(5,.slice (some ⟨z.1,0,none⟩) N z.2)]) (fun z=>[(z.1,coB Pv.x Pv.y (T1++T2),some (111,2,z.2))]) (fun _=>True) ?_ ?_
 · subst hN
   by_cases hn1:T1=[]
   · subst hn1
     have hn2:T2≠[]:=fun e=>h0 ⟨rfl,e⟩
     simp only [List.length_nil] at hc0 hc1 ⊢
     repeat' (first|((with_reducible apply oq_id);first|(apply oq_fn;exact rfl;first|exact trivial|(and_intros<;>omega)|omega|skip))|((with_reducible apply tl_id);first|(with_reducible apply tl_nil)|((with_reducible apply u_s);(iterate 3 exact rfl);(with_reducible apply os_callF (PV:=SidV []) (hc:=Try.call168));exact rfl;exact rfl;exact fun D w1 hw1=>S1 w1 hw1.ext.ext;rintro _ _ (⟨_,rfl,rfl⟩|⟨e1,_⟩);rotate_left;exact absurd rfl e1;simp only [List.cons_append,List.nil_append])|((with_reducible apply u_s);(iterate 3 exact rfl);(with_reducible apply os_callF (PV:=SidV T2) (hc:=Try.call168));exact rfl;exact rfl;exact fun D w1 hw1=>S2 w1 hw1.ext.ext;rintro _ _ (⟨e2,_,_⟩|⟨_,g2,cp2,rfl,rfl⟩);exact absurd e2 hn2;simp only [List.cons_append,List.nil_append])|((with_reducible apply u_s);(iterate 3 exact rfl);(with_reducible apply os_callF (PV:=OwnP2 ([]++T2) (0+T2.length)) (hc:=Try.call167));exact rfl;exact rfl;exact fun D w1 hw1=>concatP_calls _ _ _ _ _ _ _ _ [] T2 w1 (two_rows hw1 (by (repeat first|exact P0|apply P1))) (nil_rd w1) (Blk.rows (hw1.blkP (by (repeat first|exact P0|apply P1))) (by simp) (co_rl T2)) hc0 hc1;rintro _ _ ⟨gT,cT,rfl,rfl⟩;simp only [List.cons_append,List.nil_append])|((with_reducible apply u_q);(iterate 4 exact rfl))|((with_reducible apply u_s);(iterate 3 exact rfl)))|((with_reducible apply os_id);first|((with_reducible apply os_x);exact rfl))|((with_reducible apply ox_id);first|((with_reducible apply ox_buildSlice1);(iterate 6 exact rfl);intro _))|((with_reducible apply t_id);first|(apply t_region;kernel_rfl)))
     all_goals exact ⟨by trivial,(gT,cT),trivial,by (repeat' (first|exact FrSub.nil|(apply FrSub.cons;exact rfl))),by (repeat' (first|exact HpSub.refl _|(apply HpSub.consE;(repeat first|exact P0|apply P1);first|exact rfl|exact co_snoc _ _|(focus (simp;done)))|apply HpSub.skipX))⟩
   by_cases hn2:T2=[]
   · subst hn2
     simp only [List.length_nil] at hc0 hc1 ⊢
     repeat' (first|((with_reducible apply oq_id);first|(apply oq_fn;exact rfl;first|exact trivial|(and_intros<;>omega)|omega|skip))|((with_reducible apply tl_id);first|(with_reducible apply tl_nil)|((with_reducible apply u_s);(iterate 3 exact rfl);(with_reducible apply os_callF (PV:=SidV T1) (hc:=Try.call168));exact rfl;exact rfl;exact fun D w1 hw1=>S1 w1 hw1.ext.ext;rintro _ _ (⟨e1,_,_⟩|⟨_,g1,cp1,rfl,rfl⟩);exact absurd e1 hn1;simp only [List.cons_append,List.nil_append])|((with_reducible apply u_s);(iterate 3 exact rfl);(with_reducible apply os_callF (PV:=SidV []) (hc:=Try.call168));exact rfl;exact rfl;exact fun D w1 hw1=>S2 w1 hw1.ext.ext;rintro _ _ (⟨_,rfl,rfl⟩|⟨e2,_⟩);rotate_left;exact absurd rfl e2;simp only [List.cons_append,List.nil_append])|((with_reducible apply u_s);(iterate 3 exact rfl);(with_reducible apply os_callF (PV:=OwnP2 (T1++[]) (T1.length+0)) (hc:=Try.call167));exact rfl;exact rfl;exact fun D w1 hw1=>concatP_calls _ _ _ _ _ _ _ _ T1 [] w1 (two_rows hw1 (by (repeat first|exact P0|apply P1))) (Blk.rows (hw1.blkP (by (repeat first|exact P0|apply P1))) (by simp) (co_rl T1)) (nil_rd w1) hc0 hc1;rintro _ _ ⟨gT,cT,rfl,rfl⟩;simp only [List.cons_append,List.nil_append])|((with_reducible apply u_q);(iterate 4 exact rfl))|((with_reducible apply u_s);(iterate 3 exact rfl)))|((with_reducible apply os_id);first|((with_reducible apply os_x);exact rfl))|((with_reducible apply ox_id);first|((with_reducible apply ox_buildSlice1);(iterate 6 exact rfl);intro _))|((with_reducible apply t_id);first|(apply t_region;kernel_rfl)))
     all_goals exact ⟨by trivial,(gT,cT),trivial,by (repeat' (first|exact FrSub.nil|(apply FrSub.cons;exact rfl))),by (repeat' (first|exact HpSub.refl _|(apply HpSub.consE;(repeat first|exact P0|apply P1);first|exact rfl|exact co_snoc _ _|(focus (simp;done)))|apply HpSub.skipX))⟩
   repeat' (first|((with_reducible apply oq_id);first|(apply oq_fn;exact rfl;first|exact trivial|(and_intros<;>omega)|omega|skip))|((with_reducible apply tl_id);first|(with_reducible apply tl_nil)|((with_reducible apply u_s);(iterate 3 exact rfl);(with_reducible apply os_callF (PV:=SidV T1) (hc:=Try.call168));exact rfl;exact rfl;exact fun D w1 hw1=>S1 w1 hw1.ext.ext;rintro _ _ (⟨e1,_,_⟩|⟨_,g1,cp1,rfl,rfl⟩);exact absurd e1 hn1;simp only [List.cons_append,List.nil_append])|((with_reducible apply u_s);(iterate 3 exact rfl);(with_reducible apply os_callF (PV:=SidV T2) (hc:=Try.call168));exact rfl;exact rfl;exact fun D w1 hw1=>S2 w1 hw1.ext.ext;rintro _ _ (⟨e2,_,_⟩|⟨_,g2,cp2,rfl,rfl⟩);exact absurd e2 hn2;simp only [List.cons_append,List.nil_append])|((with_reducible apply u_s);(iterate 3 exact rfl);(with_reducible apply os_callF (PV:=OwnP2 (T1++T2) (T1.length+T2.length)) (hc:=Try.call167));exact rfl;exact rfl;exact fun D w1 hw1=>concatP_calls _ _ _ _ _ _ _ _ T1 T2 w1 (two_rows hw1 (by (repeat first|exact P0|apply P1))) (Blk.rows (hw1.blkP (by (repeat first|exact P0|apply P1))) (by simp) (co_rl T1)) (Blk.rows (hw1.blkP (by (repeat first|exact P0|apply P1))) (by simp) (co_rl T2)) hc0 hc1;rintro _ _ ⟨gT,cT,rfl,rfl⟩;simp only [List.cons_append,List.nil_append])|((with_reducible apply u_q);(iterate 4 exact rfl))|((with_reducible apply u_s);(iterate 3 exact rfl)))|((with_reducible apply os_id);first|((with_reducible apply os_x);exact rfl))|((with_reducible apply ox_id);first|((with_reducible apply ox_buildSlice1);(iterate 6 exact rfl);intro _))|((with_reducible apply t_id);first|(apply t_region;kernel_rfl)))
   all_goals exact ⟨by trivial,(gT,cT),trivial,by (repeat' (first|exact FrSub.nil|(apply FrSub.cons;exact rfl))),by (repeat' (first|exact HpSub.refl _|(apply HpSub.consE;(repeat first|exact P0|apply P1);first|exact rfl|exact co_snoc _ _|(focus (simp;done)))|apply HpSub.skipX))⟩
 rintro ⟨g,cp⟩ -
 try dsimp only
 have hTl:(T1++T2).length=N:=by rw [List.length_append];exact hN
 have hN6:N≤1000000:=by omega
 rw [hN] at hMl
 refine t_cut (ι:=Unit) (fun _=>[(0,.slice (some ⟨pb,po,none⟩) n c),(1,.slice (some ⟨qb,qo,none⟩) m cm),(5,.slice (some ⟨g,0,none⟩) N cp)]) (fun _=>[(g,coB Pv.x Pv.y MM,some (111,2,cp))]) (fun _=>True) ?_ ?_
 · rw [← hMM]
   repeat' (first|((with_reducible apply oq_id);first|(apply oq_fn;exact rfl;first|exact trivial|(and_intros<;>omega)|omega|skip))|((with_reducible apply tl_id);first|(with_reducible apply tl_nil)|((with_reducible apply u_s);(iterate 3 exact rfl);(with_reducible apply os_callW (b:=g) (hc:=Try.call169));exact rfl;exact rfl;(repeat first|exact P0|apply P1);exact fun D w1 hw1=>sortB_calls g cp N (T1++T2) hT LL hLL w1 (hw1.blkP (by (repeat first|exact P0|apply P1))) hTl hN6)|((with_reducible apply u_q);(iterate 4 exact rfl)))|((with_reducible apply t_id);first|(apply t_region;kernel_rfl)))
   all_goals exact ⟨by trivial,(),trivial,by (repeat' (first|exact FrSub.nil|(apply FrSub.cons;exact rfl))),by (repeat' (first|exact HpSub.refl _))⟩
 rintro ⟨⟩ -
 try dsimp only
 refine t_cut (ι:=Nat) (fun b6=>[(0,.slice (some ⟨pb,po,none⟩) n c),(1,.slice (some ⟨qb,qo,none⟩) m cm),(5,.slice (some ⟨g,0,none⟩) N cp),(6,.pointer (some ⟨b6,0,none⟩))]) (fun b6=>[(b6,[.int .i64 s.x,.int .i64 s.y],some (111,2,1)),(g,coB Pv.x Pv.y MM,some (111,2,cp))]) (fun _=>True) ?_ ?_
 · repeat' (first|((with_reducible apply oq_id);first|(focus ((with_reducible apply (oq_indexAddrN (i:=0)));(iterate 4 exact rfl);omega))|(focus ((with_reducible apply (oq_addE (k:=s.x)));exact rfl;exact rfl;omega))|(focus ((with_reducible apply (oq_addE (k:=s.y)));exact rfl;exact rfl;omega))|(apply oq_fn;exact rfl;first|exact trivial|(and_intros<;>omega)|omega|skip)|((with_reducible apply oq_load);exact rfl;exact rfl)|((with_reducible apply oq_build);(iterate 3 exact rfl)))|((with_reducible apply gx_id);first|(with_reducible apply v_nil)|((with_reducible apply v_q);(iterate 3 exact rfl)))|((with_reducible apply os_id);first|((with_reducible apply os_storeAgg);(iterate 5 exact rfl)))|((with_reducible apply ox_id);first|((with_reducible apply ox_alloc);exact rfl;intro _))|((with_reducible apply ai_id);first|((with_reducible apply ai_x);(iterate 5 exact rfl))|((with_reducible apply ai_n0);(iterate 3 exact rfl)))|((with_reducible apply al_keep);focus (repeat (first|exact HpSub.refl _|(apply HpSub.cons;(repeat first|exact P0|apply P1))|apply HpSub.skipX|exact HpSub.nil)))|((with_reducible apply rd_id);first|(apply Rd.old;(first|(with_reducible assumption)|exact c0|exact c1|exact c2|exact c3|exact c4|exact c5|exact c6|exact c7|exact c8|exact d0|exact d1|exact d2|exact d3|exact d4|exact d5);first|exact List.not_mem_nil|exact m0|exact m1|exact m2|exact m3|exact m4|exact m5|exact m6|exact m7|exact m8|exact m9))|((with_reducible apply t_id);first|(apply t_mix (id:=3) [0,1,2,3,4,5,6,7,8,9,10,11,12,13,14,15,16,17,18] 2 #[false,false,false,false,false,false,false,false,false,false,false,false,false,false,false,false,false,false,false,false,false];kernel_rfl;kernel_rfl;exact rfl))|exact P0|((with_reducible apply Norm.nil);exact rfl)|((with_reducible apply Norm.cons);exact rfl)|((with_reducible apply al_id);first|(apply al_done;decide +kernel)|(apply al_one 19;decide +kernel)|(apply al_one 20;decide +kernel))|exact Nat.le_of_ble_eq_true rfl)
   all_goals exact ⟨by trivial,_,trivial,by (repeat' (first|exact FrSub.nil|(apply FrSub.cons;exact rfl))),by (repeat' (first|exact HpSub.refl _))⟩
 rintro b6 -
 try dsimp only
 refine t_cut (ι:=Nat×Nat) (fun z=>[(5,.slice (some ⟨g,0,none⟩) N cp),(6,.pointer (some ⟨b6,0,none⟩)),(7,.slice (some ⟨z.1,0,none⟩) 1 z.2)]) (fun z=>[(z.1,coB Pv.x Pv.y [s],some (111,2,z.2)),(b6,[.int .i64 s.x,.int .i64 s.y],some (111,2,1)),(g,coB Pv.x Pv.y MM,some (111,2,cp))]) (fun _=>True) ?_ ?_
 · repeat' (first|((with_reducible apply oq_id);first|(apply oq_fn;exact rfl;first|exact trivial|(and_intros<;>omega)|omega|skip)|((with_reducible apply oq_loadAgg);exact rfl;exact rfl))|((with_reducible apply tl_id);first|(with_reducible apply tl_nil)|((with_reducible apply u_q);(iterate 4 exact rfl))|((with_reducible apply u_s);(iterate 3 exact rfl)))|((with_reducible apply os_id);first|((with_reducible apply os_x);exact rfl))|((with_reducible apply ox_id);first|((with_reducible apply ox_buildSlice2);(iterate 6 exact rfl);intro _))|((with_reducible apply rd_id);first|(apply Rd.own;(repeat first|exact P0|apply P1);exact rfl;done))|((with_reducible apply t_id);first|(apply t_region;kernel_rfl))|exact Rdn.zero|apply Rdn.succ)
   all_goals exact ⟨by trivial,(_,_),trivial,by (repeat' (first|exact FrSub.nil|(apply FrSub.cons;exact rfl))),by (repeat' (first|exact HpSub.refl _))⟩
 rintro ⟨g7,cp7⟩ -
 try dsimp only
 (with_reducible apply t_seq)
 refine t_cut (ι:=Unit) (fun _=>[(6,.pointer (some ⟨b6,0,none⟩)),(7,.slice (some ⟨g7,0,none⟩) 1 cp7),(39,.slice (some ⟨g,0,none⟩) N cp),(40,.int .i64 ((N:Nat):Int)),(41,.int .i64 ((0:Nat):Int))]) (fun _=>[(g7,coB Pv.x Pv.y [s],some (111,2,cp7)),(b6,[.int .i64 s.x,.int .i64 s.y],some (111,2,1)),(g,coB Pv.x Pv.y MM,some (111,2,cp))]) (fun _=>True) ?_ ?_
 · repeat' (first|((with_reducible apply oq_id);first|(apply oq_fn;exact rfl;first|exact trivial|(and_intros<;>omega)|omega|skip))|((with_reducible apply tl_id);first|(with_reducible apply tl_nil)|((with_reducible apply u_q);(iterate 4 exact rfl)))|((with_reducible apply t_id);first|(apply t_region;kernel_rfl)))
   all_goals exact ⟨by trivial,(),trivial,by (repeat' (first|exact FrSub.nil|(apply FrSub.cons;exact rfl))),by (repeat' (first|exact HpSub.refl _))⟩
 rintro ⟨⟩ -
 try dsimp only
 (with_reducible apply t_block)
 apply t_loopP (ι:=Nat×Nat×Nat) [6,39,40] (fun z=>[(41,.int .i64 ((z.1:Nat):Int)),(7,.slice (some ⟨z.2.1,0,none⟩) (z.1+1) z.2.2)]) (fun z=>(z.2.1,coB Pv.x Pv.y (path s (MM.take z.1)),some (111,2,z.2.2))::(b6,[.int .i64 (endP s (MM.take z.1)).x,.int .i64 (endP s (MM.take z.1)).y],some (111,2,1))::(g,coB Pv.x Pv.y MM,some (111,2,cp))::[]) (fun z=>z.1≤N) (fun z=>N-z.1) ((0,g7,cp7))
 (repeat (first|exact KeepF.nil|(apply KeepF.cons;exact rfl)|apply KeepF.skip))
 (repeat first|exact FrSub.nil|(apply FrSub.cons;exact rfl))
 (try simp only [List.cons_append,List.nil_append])
 (repeat' (first|exact HpSub.refl _))
 · exact Nat.zero_le _
 rintro ⟨k,gq,cq⟩ hk
 simp only at hk
 try simp only [List.cons_append,List.nil_append]
 by_cases hlt:k<N
 rotate_left
 · obtain rfl:k=N:=by omega
   have htk:MM.take k=MM:=List.take_of_length_le (by omega)
   rw [htk]
   have hk1:k+1=MM.length+1:=by omega
   rw [hk1]
   have HHL:=fun w1 (h:RdS w1 2 (some ⟨gq,0,none⟩) (MM.length+1) ((path s MM).map (coC Pv.x Pv.y)))=>hull_P ⟨gq,0,none⟩ (MM.length+1) cq (path s MM) w1 h (path_len _ _) (by omega) (by omega) hpath
   repeat' (first|((with_reducible apply oq_id);first|((with_reducible apply oq_lssF);exact rfl;exact rfl;omega)|(apply oq_fn;exact rfl;first|exact trivial|(and_intros<;>omega)|omega|skip))|((with_reducible apply tl_id);first|(with_reducible apply tl_nil)|((with_reducible apply u_s);(iterate 3 exact rfl);(with_reducible apply os_callF (PV:=fun v H'=>∃ g cp D,D.Pairwise (fun a b=>ltP a b=true)∧(∀ q,q∈D↔q∈path s MM)∧v=.slice (some ⟨g,0,none⟩) (hulI D).length cp∧H'=[(g,coB Pv.x Pv.y (hulI D),some (111,2,cp))]) (hc:=Try.call137));exact rfl;exact rfl;exact fun D w1 hw1=>HHL w1 (Blk.rows (hw1.blkP (by (repeat first|exact P0|apply P1))) (by rw [List.length_map,path_len]) (co_rl _));rintro _ _ ⟨gh,ch,Dh,h3,h4,rfl,rfl⟩;simp only [List.cons_append,List.nil_append])|((with_reducible apply u_q);(iterate 4 exact rfl)))|((with_reducible apply t_id);first|(with_reducible apply t_seq)|(apply t_region;kernel_rfl)|((with_reducible apply t_condF);exact rfl)|(with_reducible apply t_ret)|(with_reducible apply t_exit))|with_reducible apply q_thenN|with_reducible apply q_thenE|((with_reducible apply q_blockE);exact rfl)|(with_reducible apply end_ret)|exact rvs_nil|(with_reducible apply rvs_cons)|((with_reducible apply rv_tmp);exact rfl))
   all_goals exact ⟨_,⟨gh,ch,Dh,h3,h4,rfl,rfl⟩,by (repeat' (first|exact HpSub.refl _|(apply HpSub.consE;(repeat first|exact P0|apply P1);first|exact rfl|(simp;done))|apply HpSub.skipX))⟩
 obtain ⟨u,hu⟩:∃ u,MM[k]?=some u:=⟨_,List.getElem?_eq_getElem (by omega)⟩
 obtain ⟨q0,q1⟩:=co_at (fx:=Pv.x) (fy:=Pv.y) hu
 have htk:MM.take (k+1)=MM.take k++[u]:=by rw [List.take_add_one,hu];rfl
 have hp1:path s (MM.take (k+1))=path s (MM.take k)++[endP s (MM.take (k+1))]:=by rw [htk,path_snoc,endP_snoc]
 have hpb:=hpath (endP s (MM.take (k+1))) (by
   have h:=mem_front s (MM.take (k+1)) (MM.drop (k+1))
   rw [List.take_append_drop] at h
   exact h)
 have hfl:(coB Pv.x Pv.y (path s (MM.take k))).length=(k+1)*2:=by rw [co_flat_len,path_len,List.length_take,Nat.min_eq_left (by omega)]
 have he2:endP s (MM.take (k+1))=Pv.add (endP s (MM.take k)) u:=by rw [htk,endP_snoc]
 obtain ⟨pv0,hP0⟩:∃ p,endP s (MM.take k)=p:=⟨_,rfl⟩
 obtain ⟨p1,hP1⟩:∃ p,endP s (MM.take (k+1))=p:=⟨_,rfl⟩
 obtain ⟨Q0,hQ0⟩:∃ p,path s (MM.take k)=p:=⟨_,rfl⟩
 obtain ⟨Q1,hQ1⟩:∃ p,path s (MM.take (k+1))=p:=⟨_,rfl⟩
 rw [hP0,hP1] at he2
 rw [hQ0,hQ1,hP1] at hp1
 rw [hP1] at hpb
 rw [hQ0] at hfl
 have hx1:pv0.x+u.x=p1.x:=by rw [he2];rfl
 have hy1:pv0.y+u.y=p1.y:=by rw [he2];rfl
 unfold Bd at hpb
 simp only [hP0,hQ0]
 repeat' (first|((with_reducible apply oq_id);first|(focus ((with_reducible apply oq_indexAddrN (i:=k));(iterate 4 exact rfl);omega))|(focus ((with_reducible apply (oq_addE (k:=((k+1:Nat):Int))));exact rfl;exact rfl;omega))|(focus ((with_reducible apply (oq_addE (k:=p1.x)));exact rfl;exact rfl;omega))|(focus ((with_reducible apply (oq_addE (k:=p1.y)));exact rfl;exact rfl;omega))|((with_reducible apply oq_lssT);exact rfl;exact rfl;omega)|(apply oq_fn;exact rfl;first|exact trivial|(and_intros<;>omega)|omega|skip)|((with_reducible apply oq_load);exact rfl;exact rfl)|((with_reducible apply oq_loadAgg);exact rfl;exact rfl)|((with_reducible apply oq_build);(iterate 3 exact rfl)))|((with_reducible apply tl_id);first|(with_reducible apply tl_nil)|((with_reducible apply u_q);(iterate 4 exact rfl))|((with_reducible apply u_s0);exact rfl;exact rfl)|((with_reducible apply u_s);(iterate 3 exact rfl)))|((with_reducible apply os_id);first|((with_reducible apply os_x);exact rfl)|((with_reducible apply os_storeAgg);(iterate 5 exact rfl))|((with_reducible apply os_append (hk:=app_ok101));exact rfl;exact rfl;(repeat first|exact P0|apply P1)))|((with_reducible apply ox_id);first|((with_reducible apply ox_alloc);exact rfl;intro _)|((with_reducible apply ox_buildSlice2);(iterate 6 exact rfl);intro _))|((with_reducible apply rd_id);first|(apply Rd.own;(repeat first|exact P0|apply P1);with_reducible (first|exact q0|exact q1);done)|(apply Rd.own;(repeat first|exact P0|apply P1);exact rfl;done))|((with_reducible apply t_id);first|(with_reducible apply t_seq)|(apply t_region;kernel_rfl)|((with_reducible apply t_condT);exact rfl)|(with_reducible apply t_skip)|(with_reducible apply t_block))|with_reducible apply q_thenN|with_reducible apply q_blockN|exact P0|(with_reducible apply P1)|exact Rdn.zero|apply Rdn.succ|((with_reducible apply Norm.nil);exact rfl)|((with_reducible apply Norm.cons);exact rfl)|exact hfl|(intro gN cN;with_reducible apply tl_id)|exact Nat.le_of_ble_eq_true rfl|exact (rfl:(_:Bool)=true)|omega)
 all_goals (refine ⟨(k+1,gN,cN),by simp only;omega,by simp only;omega,?_,?_⟩<;>(try simp only [hP1,hQ1,hp1])<;>(repeat' (first|exact FrSub.nil|(apply FrSub.cons;exact rfl)|exact HpSub.refl _|(apply HpSub.consE;(repeat first|exact P0|apply P1);first|exact rfl|exact co_snoc _ _|(focus (simp;done)))|apply HpSub.skipX)))
end Go.Proofs.Ytcjkndjjbjoehaa
