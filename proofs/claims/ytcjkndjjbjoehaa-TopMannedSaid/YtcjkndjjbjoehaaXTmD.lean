/- A part of the proof: rules for walks, and contracts of functions (4). -/
import Derived.Test.YtcjkndjjbjoehaaXTmC
import Derived.Test.YtcjkndjjbjoehaaXTmA
set_option linter.unusedVariables false
set_option linter.unusedSimpArgs false
set_option maxRecDepth 100000
set_option maxHeartbeats 2000000
namespace Go.Proofs.Ytcjkndjjbjoehaa
open Go.RowKit
attribute [local irreducible] OQ OS OX Rd T TL GX GL AL AI RV wpG SAny Calls
theorem search_calls (f:Nat) (caps:List Value) (n r:Nat) (p:Nat→Bool) (hn:n≤1000000000) (hr:r≤n) (h1:∀ j,j<r→p j=false) (h2:∀ j,r≤j→j<n→p j=true) (w:World) (hc:∀ (a:Array Value) (w:World),(callFunc f a).run Try.prog w=.ok (.enter f a) w)
   (hf:∀ j,j<n→∀ w1,Ext w w1→Calls Try.prog f ⟨.int .i64 (j:Int)::caps⟩ w1 fun e w'=>e=.returned (.bool (p j))∧Ext w1 w') :
   Calls Try.prog 66 #[.int .i64 (n:Int),.func (.func f) #[] ⟨caps⟩] w fun e w'=>e=.returned (.int .i64 (r:Int))∧Ext w w':=by
 refine enterQ (c:=cx w 26) Try.func66 rfl rfl rfl rfl ?_
 repeat' (first|((with_reducible apply oq_id);first|(apply oq_fn;exact rfl;first|exact trivial|(and_intros<;>omega)|omega|skip))|((with_reducible apply tl_id);first|(with_reducible apply tl_nil)|((with_reducible apply u_q);(iterate 4 exact rfl)))|((with_reducible apply t_id);first|(with_reducible apply t_seq)|(apply t_region;kernel_rfl)|(with_reducible apply t_block))|with_reducible apply q_thenN)
 apply t_loopK (ι:=(Nat×Nat)) [1,4,25] (fun (i:Nat×Nat)=>[(5,.int .i64 (i.1:Int)),(6,.int .i64 (i.2:Int))]) (fun _=>[]) (fun i=>i.1≤r∧r≤i.2∧i.2≤n) (fun i=>i.2-i.1) ((0,n))
 (repeat (first|exact KeepF.nil|(apply KeepF.cons;exact rfl)|apply KeepF.skip))
 (repeat first|exact FrSub.nil|(apply FrSub.cons;exact rfl))
 (repeat (first|exact HpSub.refl _|(apply HpSub.consE;(repeat first|exact P0|apply P1);exact rfl)|exact HpSub.nil))
 · simp only;omega
 rintro ⟨i,j⟩ ⟨i0,i1,i2⟩
 simp only at i0 i1 i2
 dsimp only
 by_cases hij:i<j
 · have hm:(i+j) / 2<n:=by omega
   cases hp:p ((i+j) / 2) with
   | false=>
     have hf':=hf ((i+j) / 2) hm
     rw [hp] at hf'
     have hlt:(i+j) / 2<r:=by
       rcases Nat.lt_or_ge ((i+j) / 2) r with h|h
       · exact h
       · rw [h2 _ h hm] at hp;cases hp
     repeat' (first|((with_reducible apply oq_id);first|(apply oq_fn;exact rfl;first|exact trivial|(and_intros<;>omega)|omega|skip)|(focus ((with_reducible apply oq_shr1N (a:=i+j));exact rfl;exact rfl;omega))|(focus ((with_reducible apply oq_convU);(iterate 3 exact rfl);(refine ⟨?_,?_⟩<;>omega)))|((with_reducible apply oq_call (k:=f) (hc:=hc));exact rfl;exact rfl;exact fun D w1 hw1=>hf' w1 hw1.ext.ext))|((with_reducible apply tl_id);first|(with_reducible apply tl_nil)|((with_reducible apply u_q);(iterate 4 exact rfl)))|((with_reducible apply t_id);first|(with_reducible apply t_seq)|(apply t_region;kernel_rfl)|((with_reducible apply t_condT);exact rfl)|((with_reducible apply t_condD);exact rfl;all_goals first|(intro hp;try (exfalso;omega))|skip)|(with_reducible apply t_skip)|(with_reducible apply t_block))|with_reducible apply q_thenN|with_reducible apply q_blockN)
     refine ⟨((i+j) / 2+1,j),⟨by simp only;omega,i1,i2⟩,by simp only;omega,?_,?_⟩<;>(repeat' (first|exact FrSub.nil|(apply FrSub.cons;exact rfl)|exact HpSub.refl _))
   | true=>
     have hf':=hf ((i+j) / 2) hm
     rw [hp] at hf'
     have hge:r≤(i+j) / 2:=by
       rcases Nat.lt_or_ge ((i+j) / 2) r with h|h
       · rw [h1 _ h] at hp;cases hp
       · exact h
     repeat' (first|((with_reducible apply oq_id);first|(apply oq_fn;exact rfl;first|exact trivial|(and_intros<;>omega)|omega|skip)|(focus ((with_reducible apply oq_shr1N (a:=i+j));exact rfl;exact rfl;omega))|(focus ((with_reducible apply oq_convU);(iterate 3 exact rfl);(refine ⟨?_,?_⟩<;>omega)))|((with_reducible apply oq_call (k:=f) (hc:=hc));exact rfl;exact rfl;exact fun D w1 hw1=>hf' w1 hw1.ext.ext))|((with_reducible apply tl_id);first|(with_reducible apply tl_nil)|((with_reducible apply u_q);(iterate 4 exact rfl)))|((with_reducible apply t_id);first|(with_reducible apply t_seq)|(apply t_region;kernel_rfl)|((with_reducible apply t_condF);exact rfl)|((with_reducible apply t_condD);exact rfl;all_goals first|(intro hp;try (exfalso;omega))|skip)|(with_reducible apply t_skip)|(with_reducible apply t_block))|with_reducible apply q_thenN|with_reducible apply q_blockN)
     refine ⟨(i,(i+j) / 2),⟨i0,hge,by simp only;omega⟩,by simp only;omega,?_,?_⟩<;>(repeat' (first|exact FrSub.nil|(apply FrSub.cons;exact rfl)|exact HpSub.refl _))
 · obtain rfl:i=j:=by omega
   obtain rfl:i=r:=by omega
   repeat' (first|((with_reducible apply oq_id);first|(apply oq_fn;exact rfl;first|exact trivial|(and_intros<;>omega)|omega|skip))|((with_reducible apply tl_id);first|(with_reducible apply tl_nil)|((with_reducible apply u_q);(iterate 4 exact rfl)))|((with_reducible apply t_id);first|(with_reducible apply t_seq)|(apply t_region;kernel_rfl)|((with_reducible apply t_condD);exact rfl;all_goals first|(intro hp;try (exfalso;omega))|skip)|(with_reducible apply t_ret)|(with_reducible apply t_exit))|with_reducible apply q_thenN|with_reducible apply q_thenE|((with_reducible apply q_blockE);exact rfl)|(with_reducible apply end_ret)|exact rvs_nil|(with_reducible apply rvs_cons)|((with_reducible apply rv_tmp);exact rfl))
   rfl
theorem at1_calls (A:Option Addr) (n c:Nat) (t:List Kn) (x:Int) (b2 b3:Nat) (j:Nat) (hj:j<n) (k:Kn) (hk:t[j]?=some k) (w:World) (hr:RdS w 3 A n (t.map knCells)) (m0:w.cell? ⟨b2,0,none⟩=some (.slice A n c)) (m1:w.cell? ⟨b3,0,none⟩=some (.int .i64 x)) :
   Calls Try.prog 184 #[.int .i64 (j:Int),.pointer (some ⟨b2,0,none⟩),.pointer (some ⟨b3,0,none⟩)] w fun e w'=>e=.returned (.bool (decide (x<k.x)))∧Ext w w':=by
 obtain ⟨b,o,k',rfl,_,hk',c0,c1,c2⟩:=kn_read hr hj
 obtain rfl:k=k':=by rw [hk] at hk';exact Option.some.inj hk'
 refine enterQ (c:=cx w 12) Try.func184 rfl rfl rfl rfl ?_
 repeat' (first|((with_reducible apply oq_id);first|(focus ((with_reducible apply oq_indexAddrN);(iterate 4 exact rfl);omega))|(apply oq_fn;exact rfl;first|exact trivial|(and_intros<;>omega)|omega|skip)|((with_reducible apply oq_load);exact rfl;exact rfl))|((with_reducible apply tl_id);first|(with_reducible apply tl_nil)|((with_reducible apply u_q);(iterate 4 exact rfl)))|((with_reducible apply gx_id);first|(with_reducible apply v_nil)|((with_reducible apply v_q);(iterate 3 exact rfl)))|((with_reducible apply rd_id);first|(apply Rd.old;exact m0;exact List.not_mem_nil)|(apply Rd.old;exact m1;exact List.not_mem_nil)|(apply Rd.old;(first|(with_reducible assumption)|exact c0|exact c1|exact c2);first|exact List.not_mem_nil|exact m0|exact m1))|((with_reducible apply t_id);first|(with_reducible apply t_seq)|(apply t_region;kernel_rfl)|(apply t_drawn;kernel_rfl;decide +kernel)|(with_reducible apply t_ret))|with_reducible apply q_thenN|(with_reducible apply end_ret)|exact rvs_nil|(with_reducible apply rvs_cons)|((with_reducible apply rv_tmp);exact rfl))
 all_goals rfl
theorem down_calls (a b:Int) (hb:0<b) (hb1:b≤1000000) (ha : -1000000000000≤a∧a≤1000000000000) (w:World):Calls Try.prog 185 #[.int .i64 a,.int .i64 b] w fun e w'=>e=.returned (.int .i64 (a / b))∧Ext w w':=by
 have hq:=tdiv_abs hb ha
 have hm:=mul_abs (x:=a.tdiv b) (y:=b) (a:=1000000000000) (b:=1000000) hq (by omega)
 have hd:=down_eq (a:=a) hb
 have r1:InR (a.tdiv b):=⟨by omega,by omega⟩
 have r2:InR (a.tdiv b*b):=⟨by omega,by omega⟩
 refine enterQ (c:=cx w 17) Try.func185 rfl rfl rfl rfl ?_
 repeat' (first|((with_reducible apply oq_id);first|(focus ((apply oq_fn);exact rfl;exact ⟨by omega,r1⟩))|(apply oq_fn;exact rfl;first|exact trivial|(and_intros<;>omega)|omega|skip))|((with_reducible apply tl_id);first|(with_reducible apply tl_nil)|((with_reducible apply u_q);(iterate 4 exact rfl)))|((with_reducible apply t_id);first|(with_reducible apply t_seq)|(apply t_region;kernel_rfl)|((with_reducible apply t_condD);exact rfl;all_goals first|(intro hp;try (exfalso;omega))|skip)|(with_reducible apply t_ret)|(with_reducible apply t_skip))|with_reducible apply q_thenN|(with_reducible apply end_ret)|exact rvs_nil|(with_reducible apply rvs_cons)|((with_reducible apply rv_tmp);exact rfl))
 · rw [hd.1 (by assumption)];rfl
 · rw [hd.2 (by assumption)];rfl
theorem srch_at {w:World} {D:List Nat} {H H1 H2:Hp} {b2 b3:Nat} {tg tg':Tg} {A:Option Addr} {n c:Nat} {t:List Kn} (hr:RdS w 3 A n (t.map knCells)) (ht:TabOk t) (x:Int) (r:Nat) (hr1:r≤n) (h1:∀ j k,j<r→t[j]?=some k→k.x≤x) (h2:∀ j k,r≤j→t[j]?=some k→x<k.x)
   (w1:World) (hw:Has w ⟨[],D⟩ H w1) (p1:Pick H b2 [.slice A n c] tg H1) (p2:Pick H b3 [.int .i64 x] tg' H2) :
   Calls Try.prog 66 #[.int .i64 (n:Int),.func (.func 184) #[] ⟨[.pointer (some ⟨b2,0,none⟩),.pointer (some ⟨b3,0,none⟩)]⟩] w1 fun e w'=>e=.returned (.int .i64 (r:Int))∧Ext w1 w':=by
 have hl:=hr.len
 simp only [List.length_map] at hl
 have h32:=ht.l32
 have m0:=hw.cellAt p1 (o:=0) rfl
 have m1:=hw.cellAt p2 (o:=0) rfl
 refine search_calls 184 _ n r (fun j=>match t[j]? with|some k=>decide (x<k.x)|none=>true) (by omega) hr1 (fun j hj=>?_) (fun j hj hjn=>?_) w1 Try.call184 (fun j hj w2 hx=>?_)
 · have:t[j]?=some t[j]:=List.getElem?_eq_getElem (by omega)
   have h:=h1 j _ hj this
   simp only [this]
   simpa using h
 · have:t[j]?=some t[j]:=List.getElem?_eq_getElem (by omega)
   have h:=h2 j _ hj this
   simp only [this]
   simpa using h
 · have:t[j]?=some t[j]:=List.getElem?_eq_getElem (by omega)
   simp only [this]
   exact at1_calls A n c t x b2 b3 j hj _ this w2 (hr.ext (hw.ext.ext.trans hx)) (hx.cell m0) (hx.cell m1)
theorem line_bounds {a b:Kn} (ha : -100000≤a.x∧a.x≤100000∧-100000≤a.lo∧a.lo≤a.hi∧a.hi≤100000) (hb : -100000≤b.x∧b.x≤100000∧-100000≤b.lo∧b.lo≤b.hi∧b.hi≤100000) (h:a.x<b.x) {x:Int} (hx : -100000≤x∧x≤100000) :
   (-1000000000000≤(x-a.x)*(b.lo-a.lo)∧(x-a.x)*(b.lo-a.lo)≤1000000000000)∧(-1000000000000≤(x-a.x)*(a.hi-b.hi)∧(x-a.x)*(a.hi-b.hi)≤1000000000000) ∧
   (-1000000000001≤(x-a.x)*(b.lo-a.lo) / (b.x-a.x)∧(x-a.x)*(b.lo-a.lo) / (b.x-a.x)≤1000000000000)∧(-1000000000001≤(x-a.x)*(a.hi-b.hi) / (b.x-a.x)∧(x-a.x)*(a.hi-b.hi) / (b.x-a.x)≤1000000000000):=by
 have m1:=mul_abs (x:=x-a.x) (y:=b.lo-a.lo) (a:=200000) (b:=200000) (by omega) (by omega)
 have m2:=mul_abs (x:=x-a.x) (y:=a.hi-b.hi) (a:=200000) (b:=200000) (by omega) (by omega)
 have d1:=ediv_abs (b:=b.x-a.x) (m:=1000000000000) (by omega) (a:=(x-a.x)*(b.lo-a.lo)) (by omega)
 have d2:=ediv_abs (b:=b.x-a.x) (m:=1000000000000) (by omega) (a:=(x-a.x)*(a.hi-b.hi)) (by omega)
 omega
theorem at_calls (A:Option Addr) (n c:Nat) (t:List Kn) (x:Int) (w:World) (hr:RdS w 3 A n (t.map knCells)) (ht:TabOk t) (hx : -100000≤x∧x≤100000) :
   Calls Try.prog 157 #[.slice A n c,.int .i64 x] w fun e w'=>e=.returned (.agg #[.int .i64 (atV t x).1,.int .i64 (atV t x).2])∧Ext w w':=by
 have hl:=hr.len
 simp only [List.length_map] at hl
 have l2:=ht.l2
 have l32:=ht.l32
 obtain ⟨r,hrn,s1,s2⟩:=mono_cut (p:=fun j=>match t[j]? with|some k=>decide (x<k.x)|none=>true) n (fun i j hij hj=>by
   have ei:t[i]?=some t[i]:=List.getElem?_eq_getElem (by omega)
   have ej:t[j]?=some t[j]:=List.getElem?_eq_getElem (by omega)
   simp only [ei,ej]
   intro h
   simp only [decide_eq_true_eq] at h ⊢
   rcases Nat.lt_or_eq_of_le hij with h1|h1
   · have:=ht.inc.at_ h1 ei ej;omega
   · subst h1;exact h)
 have h1:∀ j k,j<r→t[j]?=some k→k.x≤x:=fun j k hj hk=>by have:=s1 j hj;simp only [hk] at this;simpa using this
 have h2:∀ j k,r≤j→t[j]?=some k→x<k.x:=fun j k hj hk=>by
   have:=s2 j hj (by have:=(List.getElem?_eq_some_iff.1 hk).1;omega)
   simp only [hk] at this;simpa using this
 obtain ⟨g,hg⟩:∃ g:Nat,g+1=min (max r 1) (n-1):=⟨min (max r 1) (n-1)-1,by omega⟩
 obtain ⟨ba,oa,a,rfl,hba,ha,c0,c1,c2⟩:=kn_read hr (show g<n by omega)
 obtain ⟨bb,ob,b,hA,_,hb,d0,d1,d2⟩:=kn_read hr (show g+1<n by omega)
 obtain ⟨rfl,rfl⟩:bb=ba∧ob=oa:=by simpa using hA.symm
 have oka:=ht.at_ ha
 have okb:=ht.at_ hb
 have hab:=ht.inc.at_ (Nat.lt_succ_self g) ha hb
 have hval:atV t x=lineV a b x:=by
   refine atV_seg ht.inc ha hb ?_ ?_
   · by_cases h0:g=0
     · exact .inl h0
     · exact .inr (h1 g a (by omega) ha)
   · by_cases h0:g+2=t.length
     · exact .inl h0
     · exact .inr (by have:=h2 (g+1) b (by omega) hb;omega)
 obtain ⟨M1,M2,D1,D2⟩:=line_bounds oka okb hab hx
 have k1:InR ((x-a.x)*(b.lo-a.lo)):=⟨by omega,by omega⟩
 have k2:InR ((x-a.x)*(a.hi-b.hi)):=⟨by omega,by omega⟩
 rw [hval]
 clear hval s1 s2
 refine enterQ (c:=cx w 69) Try.func157 rfl rfl rfl rfl ?_
 repeat' (first|((with_reducible apply oq_id);first|((with_reducible apply oq_min2E (k:=((g+1:Nat):Int)));exact rfl;exact rfl;omega)|((with_reducible apply oq_subE (k:=(g:Int)));exact rfl;exact rfl;omega)|(focus ((with_reducible apply oq_indexAddrN);(iterate 4 exact rfl);omega))|(apply oq_fn;exact rfl;first|exact trivial|(and_intros<;>omega)|omega|skip)|((with_reducible apply oq_load);exact rfl;exact rfl)|((with_reducible apply oq_loadAgg);exact rfl;exact rfl)|((with_reducible apply oq_call (hc:=Try.call66));exact rfl;exact rfl;exact fun D w1 hw1=>srch_at hr ht x r hrn h1 h2 w1 hw1 (by (repeat first|exact P0|apply P1)) (by (repeat first|exact P0|apply P1))))|((with_reducible apply tl_id);first|(with_reducible apply tl_nil)|((with_reducible apply u_q);(iterate 4 exact rfl))|((with_reducible apply u_s);(iterate 3 exact rfl)))|((with_reducible apply gx_id);first|(with_reducible apply v_nil)|((with_reducible apply v_q);(iterate 3 exact rfl)))|((with_reducible apply os_id);first|((with_reducible apply os_x);exact rfl)|((with_reducible apply os_storeAgg);(iterate 5 exact rfl)))|((with_reducible apply ox_id);first|((with_reducible apply ox_alloc);exact rfl;intro _)|((with_reducible apply ox_box);exact rfl;exact rfl;intro _))|((with_reducible apply ai_id);first|((with_reducible apply ai_x);(iterate 5 exact rfl))|((with_reducible apply ai_n0);(iterate 3 exact rfl)))|((with_reducible apply al_keep);focus (repeat first|exact HpSub.refl _|(apply HpSub.cons;(repeat first|exact P0|apply P1))|exact HpSub.nil))|((with_reducible apply rd_id);first|(apply Rd.own;(repeat first|exact P0|apply P1);exact rfl;done)|(apply Rd.old;(first|(with_reducible assumption)|exact c0|exact c1|exact c2|exact d0|exact d1|exact d2);first|exact List.not_mem_nil))|((with_reducible apply t_id);first|(with_reducible apply t_cutK (ι:=(Nat×Nat)) (rid:=3) [2,3,4,5] (fun i=>[(6,.pointer (some ⟨i.1,0,none⟩)),(7,.pointer (some ⟨i.2,0,none⟩))]) (fun i=>[(i.1,knCells a,some (211,3,1)),(i.2,knCells b,some (211,3,1))]));(repeat (first|exact KeepF.nil|(apply KeepF.cons;exact rfl)|apply KeepF.skip))|(with_reducible apply t_seq)|(apply t_region;kernel_rfl))|with_reducible apply q_thenN|exact P0|(with_reducible apply P1)|exact Rdn.zero|apply Rdn.succ|((with_reducible apply Norm.nil);exact rfl)|((with_reducible apply Norm.cons);exact rfl)|((with_reducible apply cut_in2)<;>(repeat' (first|exact FrSub.nil|(apply FrSub.cons;exact rfl)|exact HpSub.refl _|(apply HpSub.consE;(repeat first|exact P0|apply P1);exact rfl)|exact HpSub.nil)))|(apply t_mix (id:=3) [0,1,2,3,4,5,6,7,8] 4 #[false,false,false,false,false,false,false,false,false,false,false,false,false];kernel_rfl;kernel_rfl;exact rfl)|((with_reducible apply al_id);first|(apply al_done;decide +kernel)|(apply al_one 9;decide +kernel)|(apply al_one 10;decide +kernel)|(apply al_one 11;decide +kernel)|(apply al_one 12;decide +kernel)|(apply al_two 9 10;decide +kernel))|exact Nat.le_of_ble_eq_true rfl)
 rintro ⟨b6,b7⟩
 try simp only [List.cons_append,List.nil_append]
 repeat' (first|((with_reducible apply oq_id);first|(apply oq_fn;exact rfl;first|exact trivial|(and_intros<;>omega)|omega|skip)|((with_reducible apply oq_load);exact rfl;exact rfl)|((with_reducible apply oq_call (hc:=Try.call185));exact rfl;exact rfl;exact fun D w1 hw1=>down_calls _ _ (by omega) (by omega) (by first|exact M1|exact M2) w1)|((with_reducible apply oq_build);(iterate 3 exact rfl)))|((with_reducible apply gx_id);first|(with_reducible apply v_nil)|((with_reducible apply v_q);(iterate 3 exact rfl)))|((with_reducible apply os_id);first|((with_reducible apply os_storeAgg);(iterate 5 exact rfl)))|((with_reducible apply ai_id);first|((with_reducible apply ai_s0);(iterate 4 exact rfl)))|((with_reducible apply rd_id);first|(apply Rd.own;(repeat first|exact P0|apply P1);exact rfl;done))|((with_reducible apply t_id);first|(with_reducible apply t_seq)|(apply t_drawn;kernel_rfl;decide +kernel)|(with_reducible apply t_ret))|with_reducible apply q_thenN|exact P0|(with_reducible apply P1)|exact Rdn.zero|apply Rdn.succ|((with_reducible apply Norm.nil);exact rfl)|((with_reducible apply Norm.cons);exact rfl)|(with_reducible apply end_ret)|exact rvs_nil|(with_reducible apply rvs_cons)|((with_reducible apply rv_cellAgg);exact rfl;exact rfl)|(apply t_mix (id:=5) [0,1,2,3,4,5,6,7,8,9,10,11,12,13,14,15,16,17,18,19,20,21,22,23,24,25,26,27,28,29,30] 1 #[false,false,false,false,false,false,false,false,false,false,false,false,false,false,false,false,false,false,false,false,false,false,false,false,false,false,false,false,false,false,false,true];kernel_rfl;kernel_rfl;exact rfl)|((with_reducible apply al_id);first|(apply al_done;decide +kernel)|(apply al_one 31;decide +kernel))|exact Nat.le_of_ble_eq_true rfl)
 all_goals rfl
theorem checkTable_ok (A:Option Addr) (n c:Nat) (t:List Kn) (w:World) (hr:RdS w 3 A n (t.map knCells)) (ht:TabOk t) :
   Calls Try.prog 156 #[.slice A n c] w fun e w'=>e=.returned (.int .i64 0)∧Ext w w':=by
 have hl:=hr.len
 simp only [List.length_map] at hl
 have l2:=ht.l2
 have l32:=ht.l32
 refine enterQ (c:=cx w 61) Try.func156 rfl rfl rfl rfl ?_
 repeat' (first|((with_reducible apply oq_id);first|(apply oq_fn;exact rfl;first|exact trivial|(and_intros<;>omega)|omega|skip))|((with_reducible apply tl_id);first|(with_reducible apply tl_nil)|((with_reducible apply u_q);(iterate 4 exact rfl))|((with_reducible apply u_splitD);exact rfl;exact rfl;all_goals first|(intro hp;try (exfalso;omega))|skip))|((with_reducible apply t_id);first|(with_reducible apply t_seq)|(apply t_region;kernel_rfl)|((with_reducible apply t_condD);exact rfl;all_goals first|(intro hp;try (exfalso;omega))|skip)|(with_reducible apply t_skip)|(with_reducible apply t_block))|with_reducible apply q_thenN)
 apply t_loopK (ι:=Nat) [0,13,14] (fun k=>[(15,.int .i64 (k:Nat))]) (fun _=>[]) (fun k=>k≤n) (fun k=>n-k) (0)
 (repeat (first|exact KeepF.nil|(apply KeepF.cons;exact rfl)|apply KeepF.skip))
 (repeat first|exact FrSub.nil|(apply FrSub.cons;exact rfl))
 (repeat (first|exact HpSub.refl _|(apply HpSub.consE;(repeat first|exact P0|apply P1);exact rfl)|exact HpSub.nil))
 · omega
 intro k hk
 try simp only [List.cons_append,List.nil_append]
 by_cases hlt:k<n
 · obtain ⟨b,o,y,rfl,_,hy,c0,c1,c2⟩:=kn_read hr hlt
   have oky:=ht.at_ hy
   cases k with
   | zero=>
     repeat' (first|((with_reducible apply oq_id);first|(focus ((with_reducible apply oq_indexAddrN);(iterate 4 exact rfl);omega))|(apply oq_fn;exact rfl;first|exact trivial|(and_intros<;>omega)|omega|skip)|((with_reducible apply oq_load);exact rfl;exact rfl)|((with_reducible apply oq_loadAgg);exact rfl;exact rfl))|((with_reducible apply tl_id);first|(with_reducible apply tl_nil)|((with_reducible apply u_q);(iterate 4 exact rfl))|((with_reducible apply u_s0);exact rfl;exact rfl)|((with_reducible apply u_s);(iterate 3 exact rfl)))|((with_reducible apply gx_id);first|(with_reducible apply v_nil)|((with_reducible apply v_q);(iterate 3 exact rfl))|((with_reducible apply v_skip);(iterate 3 exact rfl))|((with_reducible apply v_splitD);exact rfl;exact rfl;all_goals first|(intro hp;try (exfalso;omega))|skip))|((with_reducible apply os_id);first|((with_reducible apply os_x);exact rfl)|((with_reducible apply os_storeAgg);(iterate 5 exact rfl)))|((with_reducible apply ox_id);first|((with_reducible apply ox_alloc);exact rfl;intro _))|((with_reducible apply rd_id);first|(apply Rd.own;(repeat first|exact P0|apply P1);exact rfl;done)|(apply Rd.old;(first|(with_reducible assumption)|exact c0|exact c1|exact c2|exact d0|exact d1|exact d2);first|exact List.not_mem_nil))|((with_reducible apply t_id);first|(with_reducible apply t_seq)|(apply t_region;kernel_rfl)|(apply t_drawn;kernel_rfl;decide +kernel)|((with_reducible apply t_condF);exact rfl)|((with_reducible apply t_condD);exact rfl;all_goals first|(intro hp;try (exfalso;omega))|skip)|(with_reducible apply t_skip)|(with_reducible apply t_block))|with_reducible apply q_thenN|with_reducible apply q_blockN|exact P0|exact Rdn.zero|apply Rdn.succ|((with_reducible apply Norm.nil);exact rfl)|((with_reducible apply Norm.cons);exact rfl)|exact Nat.le_of_ble_eq_true rfl)
     all_goals (refine ⟨1,by omega,by omega,?_,?_⟩<;>(try simp only [List.cons_append,List.nil_append])<;>(repeat' (first|exact FrSub.nil|(apply FrSub.cons;exact rfl)|exact HpSub.nil)))
   | succ j=>
     obtain ⟨b',o',x,hA,_,hx,d0,d1,d2⟩:=kn_read hr (show j<n by omega)
     obtain ⟨rfl,rfl⟩:b'=b∧o'=o:=by simpa using hA.symm
     have hxy:=ht.inc.at_ (Nat.lt_succ_self j) hx hy
     repeat' (first|((with_reducible apply oq_id);first|((with_reducible apply oq_subE (k:=(j:Int)));exact rfl;exact rfl;omega)|(focus ((with_reducible apply oq_indexAddrN);(iterate 4 exact rfl);omega))|(apply oq_fn;exact rfl;first|exact trivial|(and_intros<;>omega)|omega|skip)|((with_reducible apply oq_load);exact rfl;exact rfl)|((with_reducible apply oq_loadAgg);exact rfl;exact rfl))|((with_reducible apply tl_id);first|(with_reducible apply tl_nil)|((with_reducible apply u_q);(iterate 4 exact rfl))|((with_reducible apply u_s0);exact rfl;exact rfl)|((with_reducible apply u_s);(iterate 3 exact rfl)))|((with_reducible apply gx_id);first|(with_reducible apply v_nil)|((with_reducible apply v_q);(iterate 3 exact rfl))|((with_reducible apply v_splitD);exact rfl;exact rfl;all_goals first|(intro hp;try (exfalso;omega))|skip))|((with_reducible apply os_id);first|((with_reducible apply os_x);exact rfl)|((with_reducible apply os_storeAgg);(iterate 5 exact rfl)))|((with_reducible apply ox_id);first|((with_reducible apply ox_alloc);exact rfl;intro _))|((with_reducible apply rd_id);first|(apply Rd.own;(repeat first|exact P0|apply P1);exact rfl;done)|(apply Rd.old;(first|(with_reducible assumption)|exact c0|exact c1|exact c2|exact d0|exact d1|exact d2);first|exact List.not_mem_nil))|((with_reducible apply t_id);first|(with_reducible apply t_seq)|(apply t_region;kernel_rfl)|(apply t_drawn;kernel_rfl;decide +kernel)|((with_reducible apply t_condD);exact rfl;all_goals first|(intro hp;try (exfalso;omega))|skip)|(with_reducible apply t_skip)|(with_reducible apply t_block))|with_reducible apply q_thenN|with_reducible apply q_blockN|exact P0|exact Rdn.zero|apply Rdn.succ|((with_reducible apply Norm.nil);exact rfl)|((with_reducible apply Norm.cons);exact rfl)|exact Nat.le_of_ble_eq_true rfl)
     all_goals (refine ⟨j+1+1,by omega,by omega,?_,?_⟩<;>(try simp only [List.cons_append,List.nil_append])<;>(repeat' (first|exact FrSub.nil|(apply FrSub.cons;exact rfl)|exact HpSub.nil)))
 · repeat' (first|((with_reducible apply oq_id);first|(apply oq_fn;exact rfl;first|exact trivial|(and_intros<;>omega)|omega|skip))|((with_reducible apply tl_id);first|(with_reducible apply tl_nil)|((with_reducible apply u_q);(iterate 4 exact rfl)))|((with_reducible apply t_id);first|(with_reducible apply t_seq)|(apply t_region;kernel_rfl)|((with_reducible apply t_condD);exact rfl;all_goals first|(intro hp;try (exfalso;omega))|skip)|(with_reducible apply t_ret)|(with_reducible apply t_exit))|with_reducible apply q_thenN|with_reducible apply q_thenE|((with_reducible apply q_blockE);exact rfl)|(with_reducible apply end_ret)|exact rvs_nil|(with_reducible apply rvs_cons)|((with_reducible apply rv_tmp);exact rfl))
   all_goals rfl
theorem around2 {w0:World} {M:Ms} {H H':Hp} {w:World} {g:Nat} {a b c d:Int} {tg:Tg} (h:Has w0 M H w) (p:Pick H g [.int .i64 a,.int .i64 b,.int .i64 c,.int .i64 d] tg H') :
   Calls Try.prog 151 #[.slice (some ⟨g,0,none⟩) 2 2] w fun e w'=>e=.returned (.agg #[.int .i64 (min a c),.int .i64 (max b d)])∧Ext w w':=by
 have:=around_calls (some ⟨g,0,none⟩) 2 2 (a,b) [(a,b),(c,d)] w (Blk.rows (k:=2) (rows:=[(a,b),(c,d)].map spanCells) (h.blk _ p.mem).2 rfl (by simp [spanCells])) (by omega) rfl (by omega) (by omega)
 have e:hullA (a,b) [(a,b),(c,d)]=(min a c,max b d):=by simp only [hullA,hullS,List.foldl_cons,List.foldl_nil];congr 1<;>omega
 rw [e] at this
 exact this
theorem value_calls (A:Option Addr) (n c:Nat) (t:List Kn) (p q:Int) (w:World) (hr:RdS w 3 A n (t.map knCells)) (ht:TabOk t) (h0:∀ k,t[0]?=some k→k.x≤p) (hpq:p≤q) (hl:∀ k,t[n-1]?=some k→q≤k.x) :
   Calls Try.prog 126 #[.slice A n c,.agg #[.int .i64 p,.int .i64 q]] w fun e w'=>e=.returned (.tuple #[.agg #[.int .i64 (valV t p q).1,.int .i64 (valV t p q).2],.int .i64 0])∧Ext w w':=by
 have hlen:=hr.len
 simp only [List.length_map] at hlen
 have l2:=ht.l2
 have l32:=ht.l32
 obtain ⟨m,rfl⟩:∃ m,n=m+1:=⟨n-1,by omega⟩
 obtain ⟨b,o,k0,rfl,_,hk0,c0,c1,c2⟩:=kn_read hr (show 0<m+1 by omega)
 obtain ⟨b',o',km,hA,_,hkm,d0,d1,d2⟩:=kn_read hr (show m<m+1 by omega)
 obtain ⟨rfl,rfl⟩:b'=b∧o'=o:=by simpa using hA.symm
 have hp0:=h0 k0 hk0
 have hq0:=hl km hkm
 have ok0:=ht.at_ hk0
 have okm:=ht.at_ hkm
 have HC:=fun w1=>check_calls p q w1
 rw [if_pos ((fineS_iff _).2 ⟨hpq,by simp only;omega,by simp only;omega⟩)] at HC
 have HP:=fun w1 (hx:Ext w w1)=>at_calls _ _ c t p w1 (hr.ext hx) ht (by omega)
 have HQ:=fun w1 (hx:Ext w w1)=>at_calls _ _ c t q w1 (hr.ext hx) ht (by omega)
 refine enterQ (c:=cx w 78) Try.func126 rfl rfl rfl rfl ?_
 repeat' (first|((with_reducible apply oq_id);first|((with_reducible apply oq_subE (k:=(m:Int)));exact rfl;exact rfl;omega)|(focus ((with_reducible apply oq_indexAddrN);(iterate 4 exact rfl);omega))|(apply oq_fn;exact rfl;first|exact trivial|(and_intros<;>omega)|omega|skip)|((with_reducible apply oq_load);exact rfl;exact rfl)|((with_reducible apply oq_loadAgg);exact rfl;exact rfl)|((with_reducible apply oq_call (hc:=Try.call156));exact rfl;exact rfl;exact fun D w1 hw1=>checkTable_ok _ _ _ t w1 (hr.ext hw1.ext.ext) ht)|((with_reducible apply oq_call (hc:=Try.call65));exact rfl;exact rfl;exact fun D w1 hw1=>HC w1)|((with_reducible apply oq_call (hc:=Try.call157));exact rfl;exact rfl;exact fun D w1 hw1=>HP w1 hw1.ext.ext)|((with_reducible apply oq_call (hc:=Try.call157));exact rfl;exact rfl;exact fun D w1 hw1=>HQ w1 hw1.ext.ext)|((with_reducible apply oq_call (hc:=Try.call151));exact rfl;exact rfl;exact fun D w1 hw1=>around2 hw1 (by (repeat first|exact P0|apply P1))))|((with_reducible apply tl_id);first|(with_reducible apply tl_nil)|((with_reducible apply u_q);(iterate 4 exact rfl))|((with_reducible apply u_s);(iterate 3 exact rfl)))|((with_reducible apply gx_id);first|(with_reducible apply v_nil)|((with_reducible apply v_q);(iterate 3 exact rfl))|((with_reducible apply v_splitD);exact rfl;exact rfl;all_goals first|(intro hp;try (exfalso;omega))|skip))|((with_reducible apply os_id);first|((with_reducible apply os_x);exact rfl)|((with_reducible apply os_storeAgg);(iterate 5 exact rfl)))|((with_reducible apply ox_id);first|((with_reducible apply ox_alloc);exact rfl;intro _)|((with_reducible apply ox_boxAgg);exact rfl;intro _)|((with_reducible apply ox_buildSlice2);(iterate 6 exact rfl);intro _))|((with_reducible apply ai_id);first|((with_reducible apply ai_q);(iterate 5 exact rfl))|((with_reducible apply ai_x);(iterate 5 exact rfl))|((with_reducible apply ai_n0);(iterate 3 exact rfl)))|((with_reducible apply al_keep);focus (repeat first|exact HpSub.refl _|(apply HpSub.cons;(repeat first|exact P0|apply P1))|exact HpSub.nil))|((with_reducible apply rd_id);first|(apply Rd.own;(repeat first|exact P0|apply P1);exact rfl;done)|(apply Rd.old;(first|(with_reducible assumption)|exact c0|exact c1|exact c2|exact d0|exact d1|exact d2);first|exact List.not_mem_nil))|((with_reducible apply t_id);first|(with_reducible apply t_cutK (ι:=Nat) (rid:=9) [0,3,4,5] (fun i=>[(8,.pointer (some ⟨i,0,none⟩))]) (fun i=>[(i,[.int .i64 (accV t p q 0).1,.int .i64 (accV t p q 0).2],some (39,2,1))]));(repeat (first|exact KeepF.nil|(apply KeepF.cons;exact rfl)|apply KeepF.skip))|(with_reducible apply t_seq)|(apply t_region;kernel_rfl)|(apply t_drawn;kernel_rfl;decide +kernel)|((with_reducible apply t_condF);exact rfl)|((with_reducible apply t_condD);exact rfl;all_goals first|(intro hp;try (exfalso;omega))|skip)|(with_reducible apply t_skip))|with_reducible apply q_thenN|exact P0|(with_reducible apply P1)|exact Rdn.zero|apply Rdn.succ|((with_reducible apply Norm.nil);exact rfl)|((with_reducible apply Norm.cons);exact rfl)|((with_reducible apply cut_in1)<;>(repeat' (first|exact FrSub.nil|(apply FrSub.cons;exact rfl)|exact HpSub.refl _|(apply HpSub.consE;(repeat first|exact P0|apply P1);exact rfl)|exact HpSub.nil)))|(apply t_mix (id:=9) [0,1,2,3,4,5,6,7] 4 #[false,false,false,false,false,false,false,false,false,false,false,false];kernel_rfl;kernel_rfl;exact rfl)|((with_reducible apply al_id);first|(apply al_done;decide +kernel)|(apply al_one 8;decide +kernel)|(apply al_one 9;decide +kernel)|(apply al_one 10;decide +kernel)|(apply al_one 11;decide +kernel)|(apply al_two 8 10;decide +kernel)|(apply al_two 9 10;decide +kernel))|exact Nat.le_of_ble_eq_true rfl)
 intro b8
 try simp only [List.cons_append,List.nil_append]
 clear c0 c1 c2 d0 d1 d2 HP HQ HC
 repeat' (first|((with_reducible apply oq_id);first|(apply oq_fn;exact rfl;first|exact trivial|(and_intros<;>omega)|omega|skip))|((with_reducible apply tl_id);first|(with_reducible apply tl_nil)|((with_reducible apply u_q);(iterate 4 exact rfl)))|((with_reducible apply t_id);first|(with_reducible apply t_seq)|(apply t_region;kernel_rfl)|(with_reducible apply t_block))|with_reducible apply q_thenN)
 apply t_loopK (ι:=Nat) [3,4,5,8,53,54,77] (fun k=>[(55,.int .i64 (k:Nat))]) (fun k=>[(b8,[.int .i64 (accV t p q k).1,.int .i64 (accV t p q k).2],some (39,2,1))]) (fun k=>k≤m+1) (fun k=>m+1-k) (0)
 (repeat (first|exact KeepF.nil|(apply KeepF.cons;exact rfl)|apply KeepF.skip))
 (repeat first|exact FrSub.nil|(apply FrSub.cons;exact rfl))
 (repeat (first|exact HpSub.refl _|(apply HpSub.consE;(repeat first|exact P0|apply P1);exact rfl)|exact HpSub.nil))
 · omega
 intro k hk
 try simp only [List.cons_append,List.nil_append]
 by_cases hlt:k<m+1
 · obtain ⟨b1,o1,y,hA,_,hy,c0,c1,c2⟩:=kn_read hr hlt
   obtain ⟨rfl,rfl⟩:b1=b'∧o1=o':=by simpa using hA.symm
   by_cases h1:p<y.x
   · by_cases h2:y.x<q
     · have he:=accV_yes hy h1 h2
       repeat' (first|((with_reducible apply oq_id);first|(focus ((with_reducible apply oq_indexAddrN);(iterate 4 exact rfl);omega))|(apply oq_fn;exact rfl;first|exact trivial|(and_intros<;>omega)|omega|skip)|((with_reducible apply oq_load);exact rfl;exact rfl)|((with_reducible apply oq_loadAgg);exact rfl;exact rfl)|((with_reducible apply oq_call (hc:=Try.call151));exact rfl;exact rfl;exact fun D w1 hw1=>around2 hw1 (by (repeat first|exact P0|apply P1))))|((with_reducible apply tl_id);first|(with_reducible apply tl_nil)|((with_reducible apply u_q);(iterate 4 exact rfl))|((with_reducible apply u_s0);exact rfl;exact rfl)|((with_reducible apply u_s);(iterate 3 exact rfl))|((with_reducible apply u_splitD);exact rfl;exact rfl;all_goals first|(intro hp;try (exfalso;omega))|skip))|((with_reducible apply os_id);first|((with_reducible apply os_x);exact rfl)|((with_reducible apply os_storeAgg);(iterate 5 exact rfl)))|((with_reducible apply ox_id);first|((with_reducible apply ox_alloc);exact rfl;intro _)|((with_reducible apply ox_buildSlice2);(iterate 6 exact rfl);intro _))|((with_reducible apply rd_id);first|(apply Rd.own;(repeat first|exact P0|apply P1);exact rfl;done)|(apply Rd.old;(first|(with_reducible assumption)|exact c0|exact c1|exact c2|exact d0|exact d1|exact d2);first|exact List.not_mem_nil))|((with_reducible apply t_id);first|(with_reducible apply t_seq)|(apply t_region;kernel_rfl)|((with_reducible apply t_condD);exact rfl;all_goals first|(intro hp;try (exfalso;omega))|skip)|(with_reducible apply t_skip)|(with_reducible apply t_block))|with_reducible apply q_thenN|with_reducible apply q_blockN|exact P0|(with_reducible apply P1)|exact Rdn.zero|apply Rdn.succ|((with_reducible apply Norm.nil);exact rfl)|((with_reducible apply Norm.cons);exact rfl)|exact Nat.le_of_ble_eq_true rfl)
       all_goals (refine ⟨k+1,by omega,by omega,?_,?_⟩<;>(try simp only [List.cons_append,List.nil_append])<;>(repeat' (first|exact FrSub.nil|(apply FrSub.cons;exact rfl)|(apply HpSub.consE;(repeat first|exact P0|apply P1);first|exact rfl|(rw [he];rfl))|exact HpSub.nil)))
     · have he:=accV_no (t:=t) (p:=p) (q:=q) hy (by omega)
       repeat' (first|((with_reducible apply oq_id);first|(focus ((with_reducible apply oq_indexAddrN);(iterate 4 exact rfl);omega))|(apply oq_fn;exact rfl;first|exact trivial|(and_intros<;>omega)|omega|skip)|((with_reducible apply oq_load);exact rfl;exact rfl)|((with_reducible apply oq_loadAgg);exact rfl;exact rfl))|((with_reducible apply tl_id);first|(with_reducible apply tl_nil)|((with_reducible apply u_q);(iterate 4 exact rfl))|((with_reducible apply u_s0);exact rfl;exact rfl)|((with_reducible apply u_s);(iterate 3 exact rfl))|((with_reducible apply u_splitD);exact rfl;exact rfl;all_goals first|(intro hp;try (exfalso;omega))|skip))|((with_reducible apply os_id);first|((with_reducible apply os_x);exact rfl)|((with_reducible apply os_storeAgg);(iterate 5 exact rfl)))|((with_reducible apply ox_id);first|((with_reducible apply ox_alloc);exact rfl;intro _))|((with_reducible apply rd_id);first|(apply Rd.own;(repeat first|exact P0|apply P1);exact rfl;done)|(apply Rd.old;(first|(with_reducible assumption)|exact c0|exact c1|exact c2|exact d0|exact d1|exact d2);first|exact List.not_mem_nil))|((with_reducible apply t_id);first|(with_reducible apply t_seq)|(apply t_region;kernel_rfl)|((with_reducible apply t_condD);exact rfl;all_goals first|(intro hp;try (exfalso;omega))|skip)|(with_reducible apply t_skip)|(with_reducible apply t_block))|with_reducible apply q_thenN|with_reducible apply q_blockN|exact P0|exact Rdn.zero|apply Rdn.succ|((with_reducible apply Norm.nil);exact rfl)|((with_reducible apply Norm.cons);exact rfl)|exact Nat.le_of_ble_eq_true rfl)
       all_goals (refine ⟨k+1,by omega,by omega,?_,?_⟩<;>(try simp only [List.cons_append,List.nil_append])<;>(repeat' (first|exact FrSub.nil|(apply FrSub.cons;exact rfl)|(apply HpSub.consE;(repeat first|exact P0|apply P1);first|exact rfl|(rw [he]))|exact HpSub.nil)))
   · have he:=accV_no (t:=t) (p:=p) (q:=q) hy (by omega)
     repeat' (first|((with_reducible apply oq_id);first|(focus ((with_reducible apply oq_indexAddrN);(iterate 4 exact rfl);omega))|(apply oq_fn;exact rfl;first|exact trivial|(and_intros<;>omega)|omega|skip)|((with_reducible apply oq_load);exact rfl;exact rfl)|((with_reducible apply oq_loadAgg);exact rfl;exact rfl))|((with_reducible apply tl_id);first|(with_reducible apply tl_nil)|((with_reducible apply u_q);(iterate 4 exact rfl))|((with_reducible apply u_s0);exact rfl;exact rfl)|((with_reducible apply u_s);(iterate 3 exact rfl))|((with_reducible apply u_skip);(iterate 3 exact rfl))|((with_reducible apply u_splitD);exact rfl;exact rfl;all_goals first|(intro hp;try (exfalso;omega))|skip))|((with_reducible apply os_id);first|((with_reducible apply os_x);exact rfl)|((with_reducible apply os_storeAgg);(iterate 5 exact rfl)))|((with_reducible apply ox_id);first|((with_reducible apply ox_alloc);exact rfl;intro _))|((with_reducible apply rd_id);first|(apply Rd.own;(repeat first|exact P0|apply P1);exact rfl;done)|(apply Rd.old;(first|(with_reducible assumption)|exact c0|exact c1|exact c2|exact d0|exact d1|exact d2);first|exact List.not_mem_nil))|((with_reducible apply t_id);first|(with_reducible apply t_seq)|(apply t_region;kernel_rfl)|((with_reducible apply t_condF);exact rfl)|((with_reducible apply t_condD);exact rfl;all_goals first|(intro hp;try (exfalso;omega))|skip)|(with_reducible apply t_skip)|(with_reducible apply t_block))|with_reducible apply q_thenN|with_reducible apply q_blockN|exact P0|exact Rdn.zero|apply Rdn.succ|((with_reducible apply Norm.nil);exact rfl)|((with_reducible apply Norm.cons);exact rfl)|exact Nat.le_of_ble_eq_true rfl)
     all_goals (refine ⟨k+1,by omega,by omega,?_,?_⟩<;>(try simp only [List.cons_append,List.nil_append])<;>(repeat' (first|exact FrSub.nil|(apply FrSub.cons;exact rfl)|(apply HpSub.consE;(repeat first|exact P0|apply P1);first|exact rfl|(rw [he]))|exact HpSub.nil)))
 · have he:accV t p q k=valV t p q:=accV_all (by omega)
   repeat' (first|((with_reducible apply oq_id);first|(apply oq_fn;exact rfl;first|exact trivial|(and_intros<;>omega)|omega|skip)|((with_reducible apply oq_loadAgg);exact rfl;exact rfl))|((with_reducible apply tl_id);first|(with_reducible apply tl_nil)|((with_reducible apply u_q);(iterate 4 exact rfl))|((with_reducible apply u_s0);exact rfl;exact rfl))|((with_reducible apply os_id);first|((with_reducible apply os_storeAgg);(iterate 5 exact rfl)))|((with_reducible apply rd_id);first|(apply Rd.own;(repeat first|exact P0|apply P1);exact rfl;done))|((with_reducible apply t_id);first|(with_reducible apply t_seq)|(apply t_region;kernel_rfl)|((with_reducible apply t_condD);exact rfl;all_goals first|(intro hp;try (exfalso;omega))|skip)|(with_reducible apply t_ret)|(with_reducible apply t_exit))|with_reducible apply q_thenN|with_reducible apply q_thenE|((with_reducible apply q_blockE);exact rfl)|exact P0|(with_reducible apply P1)|exact Rdn.zero|apply Rdn.succ|((with_reducible apply Norm.nil);exact rfl)|((with_reducible apply Norm.cons);exact rfl)|(with_reducible apply end_ret)|exact rvs_nil|(with_reducible apply rvs_cons)|((with_reducible apply rv_tmp);exact rfl)|((with_reducible apply rv_cellAgg);exact rfl;exact rfl)|exact Nat.le_of_ble_eq_true rfl)
   rw [he]
   all_goals rfl
theorem fromOne {w0:World} {M:Ms} {H H':Hp} {w:World} {g:Nat} {a lo hi:Int} {tg:Tg} {cp:Nat} {q:Bool} (hq:decide (lo≤a∧a≤hi)=q) (h:Has w0 M H w) (p:Pick H g [.int .i64 a] tg H') :
   Calls Try.prog 75 #[.int .i64 lo,.int .i64 hi,.slice (some ⟨g,0,none⟩) 1 cp] w fun e w'=>e=.returned (.bool q)∧Ext w w':=by
 have:=from_calls lo hi (some ⟨g,0,none⟩) 1 cp [a] w (Blk.rows (k:=1) (rows:=[a].map fun z=>[Value.int .i64 z]) (h.blk _ p.mem).2 rfl (by simp)) (by omega)
 have e:allFrom lo hi [a]=q:=by rw [← hq];unfold allFrom;rw [Bool.eq_iff_iff];simp
 rw [e] at this
 exact this
theorem inside_at (x y lo hi:Int) {q:Bool} (hq:decide (x≤y∧lo≤x∧y≤hi)=q) (w:World):Calls Try.prog 120 #[.agg #[.int .i64 x,.int .i64 y],.int .i64 lo,.int .i64 hi] w fun e w'=>e=.returned (.bool q)∧Ext w w':=by
 have:=inside_calls x y lo hi w
 have e:insideB x y lo hi=q:=by rw [← hq];unfold insideB;rw [Bool.eq_iff_iff];try (simp;try omega)
 rw [e] at this
 exact this
structure Snd (l:List Lv):Prop where
 n2:2≤l.length
 n16:l.length≤16
 ok:∀ x∈l,-500≤x.h∧x.h≤9000∧1000≤x.plo∧x.plo≤x.phi∧x.phi≤12000∧1500≤x.tlo∧x.tlo≤x.thi∧x.thi≤3500
 rise:∀ {i:Nat} {x y:Lv},l[i]?=some x→l[i+1]?=some y→1≤y.h-x.h∧y.h-x.h≤2000
theorem checkWinds_calls (A:Option Addr) (n c:Nat) (l:List Gl) (w:World) (hr:RdS w 6 A n (l.map glCells)) (hn:n≤1000000) :
    Calls Try.prog 62 #[.slice A n c] w fun e w'=>e=.returned (.int .i64 (if windB l then 0 else 22))∧Ext w w':=by
  have hl:=hr.len
  simp only [List.length_map] at hl
  cases h0:decide (1≤(n:Int)∧(n:Int)≤16) with
  | false=>
    refine enterQ (c:=cx w 57) Try.func62 rfl rfl rfl rfl ?_
    repeat' (first|((with_reducible apply oq_id);first|(apply oq_fn;exact rfl;first|exact trivial|(and_intros<;>omega)|omega|skip)|((with_reducible apply oq_call (hc:=Try.call75));exact rfl;exact rfl;exact fun D w1 hw1=>fromOne h0 hw1 (by (repeat first|exact P0|apply P1))))|((with_reducible apply tl_id);first|(with_reducible apply tl_nil)|((with_reducible apply u_q);(iterate 4 exact rfl))|((with_reducible apply u_s);(iterate 3 exact rfl)))|((with_reducible apply os_id);first|((with_reducible apply os_x);exact rfl))|((with_reducible apply ox_id);first|((with_reducible apply ox_buildSlice1);(iterate 6 exact rfl);intro _))|((with_reducible apply t_id);first|(with_reducible apply t_seq)|(apply t_region;kernel_rfl)|((with_reducible apply t_condT);exact rfl)|(with_reducible apply t_ret))|with_reducible apply q_thenN|with_reducible apply q_thenR|(with_reducible apply end_ret)|exact rvs_nil|(with_reducible apply rvs_cons)|((with_reducible apply rv_tmp);exact rfl))
    all_goals (rw [windB_short hl.symm.symm h0];rfl)
  | true=>
  refine enterQ (c:=cx w 57) Try.func62 rfl rfl rfl rfl ?_
  repeat' (first|((with_reducible apply oq_id);first|(apply oq_fn;exact rfl;first|exact trivial|(and_intros<;>omega)|omega|skip)|((with_reducible apply oq_call (hc:=Try.call75));exact rfl;exact rfl;exact fun D w1 hw1=>fromOne h0 hw1 (by (repeat first|exact P0|apply P1))))|((with_reducible apply tl_id);first|(with_reducible apply tl_nil)|((with_reducible apply u_q);(iterate 4 exact rfl))|((with_reducible apply u_s);(iterate 3 exact rfl)))|((with_reducible apply os_id);first|((with_reducible apply os_x);exact rfl))|((with_reducible apply ox_id);first|((with_reducible apply ox_buildSlice1);(iterate 6 exact rfl);intro _))|((with_reducible apply t_id);first|(with_reducible apply t_seq)|(apply t_region;kernel_rfl)|((with_reducible apply t_condF);exact rfl)|(with_reducible apply t_skip)|(with_reducible apply t_block))|with_reducible apply q_thenN)
  apply t_loopK (ι:=Nat) [0,10,11] (fun k=>[(12,.int .i64 (k:Nat))]) (fun _=>[]) (fun k=>k≤n∧∀ j,j<k→galeAt l j=true) (fun k=>n-k) (0)
  (repeat (first|exact KeepF.nil|(apply KeepF.cons;exact rfl)|apply KeepF.skip))
  (repeat first|exact FrSub.nil|(apply FrSub.cons;exact rfl))
  (repeat (first|exact HpSub.refl _|(apply HpSub.consE;(repeat first|exact P0|apply P1);exact rfl)|exact HpSub.nil))
  · exact ⟨by omega,fun j hj=>by omega⟩
  rintro k ⟨hk,hkp⟩
  try simp only [List.cons_append,List.nil_append]
  by_cases hlt:k<n
  · obtain ⟨b,o,x,rfl,_,hx,c0,c1,c2,c3,c4,c5⟩:=gl_read hr hlt
    have hG:=galeAt_eq hx
    unfold galeOk at hG
    obtain ⟨q1,h1⟩:∃ q,decide (-500≤x.h∧x.h≤9000)=q:=⟨_,rfl⟩
    obtain ⟨q3,h3⟩:∃ q,decide (0≤x.gust∧x.gust≤500)=q:=⟨_,rfl⟩
    obtain ⟨q4,h4⟩:∃ q,decide (x.xlo≤x.xhi∧-1000≤x.xlo∧x.xhi≤1000)=q:=⟨_,rfl⟩
    obtain ⟨q5,h5⟩:∃ q,decide (x.ylo≤x.yhi∧-1000≤x.ylo∧x.yhi≤1000)=q:=⟨_,rfl⟩
    rw [h1,h3,h4,h5] at hG
    cases q1 with
    | false=>
      repeat' (first|((with_reducible apply oq_id);first|(focus ((with_reducible apply oq_indexAddrN);(iterate 4 exact rfl);omega))|(apply oq_fn;exact rfl;first|exact trivial|(and_intros<;>omega)|omega|skip)|((with_reducible apply oq_load);exact rfl;exact rfl)|((with_reducible apply oq_loadAgg);exact rfl;exact rfl)|((with_reducible apply oq_call (hc:=Try.call75));exact rfl;exact rfl;exact fun D w1 hw1=>fromOne h1 hw1 (by (repeat first|exact P0|apply P1))))|((with_reducible apply tl_id);first|(with_reducible apply tl_nil)|((with_reducible apply u_q);(iterate 4 exact rfl))|((with_reducible apply u_s0);exact rfl;exact rfl)|((with_reducible apply u_s);(iterate 3 exact rfl)))|((with_reducible apply gx_id);first|(with_reducible apply v_nil)|((with_reducible apply v_q);(iterate 3 exact rfl))|((with_reducible apply v_skip);(iterate 3 exact rfl)))|((with_reducible apply os_id);first|((with_reducible apply os_x);exact rfl)|((with_reducible apply os_storeAgg);(iterate 5 exact rfl)))|((with_reducible apply ox_id);first|((with_reducible apply ox_alloc);exact rfl;intro _)|((with_reducible apply ox_buildSlice1);(iterate 6 exact rfl);intro _))|((with_reducible apply ai_id);first|((with_reducible apply ai_q);(iterate 5 exact rfl))|((with_reducible apply ai_x);(iterate 5 exact rfl))|((with_reducible apply ai_skip);(iterate 4 exact rfl)))|((with_reducible apply rd_id);first|(apply Rd.own;(repeat first|exact P0|apply P1);exact rfl;done)|(apply Rd.old;(first|(with_reducible assumption)|exact c0|exact c1|exact c2|exact c3|exact c4|exact c5|exact d0|exact d1|exact d2|exact d3|exact d4|exact d5);first|exact List.not_mem_nil))|((with_reducible apply t_id);first|(with_reducible apply t_seq)|(apply t_region;kernel_rfl)|((with_reducible apply t_condT);exact rfl)|((with_reducible apply t_condD);exact rfl;all_goals first|(intro hp;try (exfalso;omega))|skip)|(with_reducible apply t_ret)|(with_reducible apply t_skip)|(with_reducible apply t_block))|with_reducible apply q_thenN|with_reducible apply q_thenR|with_reducible apply q_blockR|exact P0|exact Rdn.zero|apply Rdn.succ|((with_reducible apply Norm.nil);exact rfl)|((with_reducible apply Norm.cons);exact rfl)|(with_reducible apply end_ret)|exact rvs_nil|(with_reducible apply rvs_cons)|((with_reducible apply rv_tmp);exact rfl)|(apply t_mix (id:=6) [0,1] 25 #[false,false,false,false,false,false,false,false,false,false,false,false,false,false,false,false,false,false,false,false,false,false,false,false,false,false,false];kernel_rfl;kernel_rfl;exact rfl)|((with_reducible apply al_id);first|(apply al_more [4,5,6,7,8,9,10,11,12,13,14,15,16,17,18,19,20,21,22] 4;decide +kernel;exact rfl;exact rfl;focus (repeat first|exact HpSub.refl _|(apply HpSub.cons;(repeat first|exact P0|apply P1))|exact HpSub.nil))|(apply al_more [25,26] 0;decide +kernel;exact rfl;exact rfl;focus (repeat first|exact HpSub.refl _|(apply HpSub.cons;(repeat first|exact P0|apply P1))|exact HpSub.nil))|(apply al_done;decide +kernel)|(apply al_one 2;decide +kernel)|(apply al_one 3;decide +kernel)|(apply al_one 23;decide +kernel)|(apply al_one 24;decide +kernel))|exact Nat.le_of_ble_eq_true rfl)
      all_goals (rw [windB_no hl.symm.symm (by omega) (by rw [hG];rfl)];rfl)
    | true=>
    cases k with
    | zero=>
      simp only [prevG,Bool.true_and] at hG
      repeat' (first|((with_reducible apply oq_id);first|(focus ((with_reducible apply oq_indexAddrN);(iterate 4 exact rfl);omega))|(apply oq_fn;exact rfl;first|exact trivial|(and_intros<;>omega)|omega|skip)|((with_reducible apply oq_load);exact rfl;exact rfl)|((with_reducible apply oq_loadAgg);exact rfl;exact rfl)|((with_reducible apply oq_call (hc:=Try.call75));exact rfl;exact rfl;exact fun D w1 hw1=>fromOne h1 hw1 (by (repeat first|exact P0|apply P1)))|((with_reducible apply oq_call (hc:=Try.call75));exact rfl;exact rfl;exact fun D w1 hw1=>fromOne h3 hw1 (by (repeat first|exact P0|apply P1)))|((with_reducible apply oq_call (hc:=Try.call120));exact rfl;exact rfl;exact fun D w1 hw1=>inside_at _ _ _ _ h4 w1)|((with_reducible apply oq_call (hc:=Try.call120));exact rfl;exact rfl;exact fun D w1 hw1=>inside_at _ _ _ _ h5 w1))|((with_reducible apply tl_id);first|(with_reducible apply tl_nil)|((with_reducible apply u_q);(iterate 4 exact rfl))|((with_reducible apply u_s0);exact rfl;exact rfl)|((with_reducible apply u_s);(iterate 3 exact rfl))|((with_reducible apply u_skip);(iterate 3 exact rfl))|((with_reducible apply u_split);exact rfl;exact rfl;all_goals first|intro hp|skip))|((with_reducible apply gx_id);first|(with_reducible apply v_nil)|((with_reducible apply v_q);(iterate 3 exact rfl))|((with_reducible apply v_skip);(iterate 3 exact rfl)))|((with_reducible apply os_id);first|((with_reducible apply os_x);exact rfl)|((with_reducible apply os_storeAgg);(iterate 5 exact rfl)))|((with_reducible apply ox_id);first|((with_reducible apply ox_alloc);exact rfl;intro _)|((with_reducible apply ox_buildSlice1);(iterate 6 exact rfl);intro _))|((with_reducible apply ai_id);first|((with_reducible apply ai_q);(iterate 5 exact rfl))|((with_reducible apply ai_x);(iterate 5 exact rfl)))|((with_reducible apply rd_id);first|(apply Rd.own;(repeat first|exact P0|apply P1);exact rfl;done)|(apply Rd.old;(first|(with_reducible assumption)|exact c0|exact c1|exact c2|exact c3|exact c4|exact c5|exact d0|exact d1|exact d2|exact d3|exact d4|exact d5);first|exact List.not_mem_nil))|((with_reducible apply t_id);first|(with_reducible apply t_seq)|(apply t_region;kernel_rfl)|((with_reducible apply t_condT);exact rfl)|((with_reducible apply t_condD);exact rfl;all_goals first|(intro hp;try (exfalso;omega))|skip)|((with_reducible apply t_cond);exact rfl;all_goals first|intro hp|skip)|(with_reducible apply t_ret)|(with_reducible apply t_skip)|(with_reducible apply t_block))|with_reducible apply q_thenN|with_reducible apply q_thenR|with_reducible apply q_blockR|with_reducible apply q_blockN|exact P0|exact Rdn.zero|apply Rdn.succ|((with_reducible apply Norm.nil);exact rfl)|((with_reducible apply Norm.cons);exact rfl)|(with_reducible apply end_ret)|exact rvs_nil|(with_reducible apply rvs_cons)|((with_reducible apply rv_tmp);exact rfl)|(apply t_mix (id:=6) [0,1] 25 #[false,false,false,false,false,false,false,false,false,false,false,false,false,false,false,false,false,false,false,false,false,false,false,false,false,false,false];kernel_rfl;kernel_rfl;exact rfl)|((with_reducible apply al_id);first|(apply al_more [4,5,6,7,8,9,10,11,12,13,14,15,16,17,18,19,20,21,22] 4;decide +kernel;exact rfl;exact rfl;focus (repeat first|exact HpSub.refl _|(apply HpSub.cons;(repeat first|exact P0|apply P1))|exact HpSub.nil))|(apply al_more [25,26] 0;decide +kernel;exact rfl;exact rfl;focus (repeat first|exact HpSub.refl _|(apply HpSub.cons;(repeat first|exact P0|apply P1))|exact HpSub.nil))|(apply al_done;decide +kernel)|(apply al_one 2;decide +kernel)|(apply al_one 3;decide +kernel)|(apply al_one 23;decide +kernel)|(apply al_one 24;decide +kernel))|exact Nat.le_of_ble_eq_true rfl)
      all_goals first
        | (rw [windB_no hl.symm.symm (by omega) (by rw [hG];simp_all)];rfl)
        | (refine ⟨1, ⟨by omega, fun i hi => (by obtain rfl : i = 0 := by omega
                                                 rw [hG];simp_all)⟩,by omega,?_,?_⟩<;>(try simp only [List.cons_append,List.nil_append])<;>(repeat' (first|exact FrSub.nil|(apply FrSub.cons;exact rfl)|(apply HpSub.consE;(repeat first|exact P0|apply P1);exact rfl)|exact HpSub.nil)))
    | succ j=>
      obtain ⟨b',o',y,hA,_,hy,d0,d1,d2,d3,d4,d5⟩:=gl_read hr (show j<n by omega)
      obtain ⟨rfl,rfl⟩:b'=b∧o'=o:=by simpa using hA.symm
      simp only [prevG,hy,Bool.true_and] at hG
      by_cases hyx:y.h<x.h
      · rw [decide_eq_true hyx,Bool.true_and] at hG
        repeat' (first|((with_reducible apply oq_id);first|(focus ((with_reducible apply oq_indexAddrN);(iterate 4 exact rfl);omega))|((with_reducible apply oq_subE (k:=(j:Int)));exact rfl;exact rfl;omega)|(apply oq_fn;exact rfl;first|exact trivial|(and_intros<;>omega)|omega|skip)|((with_reducible apply oq_load);exact rfl;exact rfl)|((with_reducible apply oq_loadAgg);exact rfl;exact rfl)|((with_reducible apply oq_call (hc:=Try.call75));exact rfl;exact rfl;exact fun D w1 hw1=>fromOne h1 hw1 (by (repeat first|exact P0|apply P1)))|((with_reducible apply oq_call (hc:=Try.call75));exact rfl;exact rfl;exact fun D w1 hw1=>fromOne h3 hw1 (by (repeat first|exact P0|apply P1)))|((with_reducible apply oq_call (hc:=Try.call120));exact rfl;exact rfl;exact fun D w1 hw1=>inside_at _ _ _ _ h4 w1)|((with_reducible apply oq_call (hc:=Try.call120));exact rfl;exact rfl;exact fun D w1 hw1=>inside_at _ _ _ _ h5 w1))|((with_reducible apply tl_id);first|(with_reducible apply tl_nil)|((with_reducible apply u_q);(iterate 4 exact rfl))|((with_reducible apply u_s0);exact rfl;exact rfl)|((with_reducible apply u_s);(iterate 3 exact rfl))|((with_reducible apply u_skip);(iterate 3 exact rfl))|((with_reducible apply u_split);exact rfl;exact rfl;all_goals first|intro hp|skip))|((with_reducible apply gx_id);first|(with_reducible apply v_nil)|((with_reducible apply v_q);(iterate 3 exact rfl))|((with_reducible apply v_splitD);exact rfl;exact rfl;all_goals first|(intro hp;try (exfalso;omega))|skip))|((with_reducible apply os_id);first|((with_reducible apply os_x);exact rfl)|((with_reducible apply os_storeAgg);(iterate 5 exact rfl)))|((with_reducible apply ox_id);first|((with_reducible apply ox_alloc);exact rfl;intro _)|((with_reducible apply ox_buildSlice1);(iterate 6 exact rfl);intro _))|((with_reducible apply ai_id);first|((with_reducible apply ai_q);(iterate 5 exact rfl))|((with_reducible apply ai_x);(iterate 5 exact rfl)))|((with_reducible apply rd_id);first|(apply Rd.own;(repeat first|exact P0|apply P1);exact rfl;done)|(apply Rd.old;(first|(with_reducible assumption)|exact c0|exact c1|exact c2|exact c3|exact c4|exact c5|exact d0|exact d1|exact d2|exact d3|exact d4|exact d5);first|exact List.not_mem_nil))|((with_reducible apply t_id);first|(with_reducible apply t_seq)|(apply t_region;kernel_rfl)|((with_reducible apply t_condT);exact rfl)|((with_reducible apply t_condD);exact rfl;all_goals first|(intro hp;try (exfalso;omega))|skip)|((with_reducible apply t_cond);exact rfl;all_goals first|intro hp|skip)|(with_reducible apply t_ret)|(with_reducible apply t_skip)|(with_reducible apply t_block))|with_reducible apply q_thenN|with_reducible apply q_thenR|with_reducible apply q_blockR|with_reducible apply q_blockN|exact P0|exact Rdn.zero|apply Rdn.succ|((with_reducible apply Norm.nil);exact rfl)|((with_reducible apply Norm.cons);exact rfl)|(with_reducible apply end_ret)|exact rvs_nil|(with_reducible apply rvs_cons)|((with_reducible apply rv_tmp);exact rfl)|(apply t_mix (id:=6) [0,1] 25 #[false,false,false,false,false,false,false,false,false,false,false,false,false,false,false,false,false,false,false,false,false,false,false,false,false,false,false];kernel_rfl;kernel_rfl;exact rfl)|((with_reducible apply al_id);first|(apply al_more [4,5,6,7,8,9,10,11,12,13,14,15,16,17,18,19,20,21,22] 4;decide +kernel;exact rfl;exact rfl;focus (repeat first|exact HpSub.refl _|(apply HpSub.cons;(repeat first|exact P0|apply P1))|exact HpSub.nil))|(apply al_more [25,26] 0;decide +kernel;exact rfl;exact rfl;focus (repeat first|exact HpSub.refl _|(apply HpSub.cons;(repeat first|exact P0|apply P1))|exact HpSub.nil))|(apply al_done;decide +kernel)|(apply al_one 2;decide +kernel)|(apply al_one 3;decide +kernel)|(apply al_one 23;decide +kernel)|(apply al_one 24;decide +kernel))|exact Nat.le_of_ble_eq_true rfl)
        all_goals first
          | (rw [windB_no hl.symm.symm (by omega) (by rw [hG];simp_all)];rfl)
          | (refine ⟨j+1+1,⟨by omega,fun i hi=>(by rcases Nat.lt_or_ge i (j+1) with h|h;(exact hkp i h);(obtain rfl:i=j+1:=by omega);rw [hG];simp_all)⟩,by omega,?_,?_⟩<;>(try simp only [List.cons_append,List.nil_append])<;>(repeat' (first|exact FrSub.nil|(apply FrSub.cons;exact rfl)|(apply HpSub.consE;(repeat first|exact P0|apply P1);exact rfl)|exact HpSub.nil)))
      · rw [decide_eq_false hyx,Bool.false_and] at hG
        repeat' (first|((with_reducible apply oq_id);first|(focus ((with_reducible apply oq_indexAddrN);(iterate 4 exact rfl);omega))|((with_reducible apply oq_subE (k:=(j:Int)));exact rfl;exact rfl;omega)|(apply oq_fn;exact rfl;first|exact trivial|(and_intros<;>omega)|omega|skip)|((with_reducible apply oq_load);exact rfl;exact rfl)|((with_reducible apply oq_loadAgg);exact rfl;exact rfl)|((with_reducible apply oq_call (hc:=Try.call75));exact rfl;exact rfl;exact fun D w1 hw1=>fromOne h1 hw1 (by (repeat first|exact P0|apply P1))))|((with_reducible apply tl_id);first|(with_reducible apply tl_nil)|((with_reducible apply u_q);(iterate 4 exact rfl))|((with_reducible apply u_s0);exact rfl;exact rfl)|((with_reducible apply u_s);(iterate 3 exact rfl)))|((with_reducible apply gx_id);first|(with_reducible apply v_nil)|((with_reducible apply v_q);(iterate 3 exact rfl))|((with_reducible apply v_skip);(iterate 3 exact rfl))|((with_reducible apply v_splitD);exact rfl;exact rfl;all_goals first|(intro hp;try (exfalso;omega))|skip))|((with_reducible apply os_id);first|((with_reducible apply os_x);exact rfl)|((with_reducible apply os_storeAgg);(iterate 5 exact rfl)))|((with_reducible apply ox_id);first|((with_reducible apply ox_alloc);exact rfl;intro _)|((with_reducible apply ox_buildSlice1);(iterate 6 exact rfl);intro _))|((with_reducible apply ai_id);first|((with_reducible apply ai_q);(iterate 5 exact rfl))|((with_reducible apply ai_x);(iterate 5 exact rfl))|((with_reducible apply ai_skip);(iterate 4 exact rfl)))|((with_reducible apply rd_id);first|(apply Rd.own;(repeat first|exact P0|apply P1);exact rfl;done)|(apply Rd.old;(first|(with_reducible assumption)|exact c0|exact c1|exact c2|exact c3|exact c4|exact c5|exact d0|exact d1|exact d2|exact d3|exact d4|exact d5);first|exact List.not_mem_nil))|((with_reducible apply t_id);first|(with_reducible apply t_seq)|(apply t_region;kernel_rfl)|((with_reducible apply t_condT);exact rfl)|((with_reducible apply t_condD);exact rfl;all_goals first|(intro hp;try (exfalso;omega))|skip)|(with_reducible apply t_ret)|(with_reducible apply t_skip)|(with_reducible apply t_block))|with_reducible apply q_thenN|with_reducible apply q_thenR|with_reducible apply q_blockR|exact P0|exact Rdn.zero|apply Rdn.succ|((with_reducible apply Norm.nil);exact rfl)|((with_reducible apply Norm.cons);exact rfl)|(with_reducible apply end_ret)|exact rvs_nil|(with_reducible apply rvs_cons)|((with_reducible apply rv_tmp);exact rfl)|(apply t_mix (id:=6) [0,1] 25 #[false,false,false,false,false,false,false,false,false,false,false,false,false,false,false,false,false,false,false,false,false,false,false,false,false,false,false];kernel_rfl;kernel_rfl;exact rfl)|((with_reducible apply al_id);first|(apply al_more [4,5,6,7,8,9,10,11,12,13,14,15,16,17,18,19,20,21,22] 4;decide +kernel;exact rfl;exact rfl;focus (repeat first|exact HpSub.refl _|(apply HpSub.cons;(repeat first|exact P0|apply P1))|exact HpSub.nil))|(apply al_more [25,26] 0;decide +kernel;exact rfl;exact rfl;focus (repeat first|exact HpSub.refl _|(apply HpSub.cons;(repeat first|exact P0|apply P1))|exact HpSub.nil))|(apply al_done;decide +kernel)|(apply al_one 2;decide +kernel)|(apply al_one 3;decide +kernel)|(apply al_one 23;decide +kernel)|(apply al_one 24;decide +kernel))|exact Nat.le_of_ble_eq_true rfl)
        all_goals (rw [windB_no hl.symm.symm (by omega) (by rw [hG])];rfl)
  · repeat' (first|((with_reducible apply oq_id);first|(apply oq_fn;exact rfl;first|exact trivial|(and_intros<;>omega)|omega|skip))|((with_reducible apply tl_id);first|(with_reducible apply tl_nil)|((with_reducible apply u_q);(iterate 4 exact rfl)))|((with_reducible apply t_id);first|(with_reducible apply t_seq)|(apply t_region;kernel_rfl)|((with_reducible apply t_condD);exact rfl;all_goals first|(intro hp;try (exfalso;omega))|skip)|(with_reducible apply t_ret)|(with_reducible apply t_exit))|with_reducible apply q_thenN|with_reducible apply q_thenE|((with_reducible apply q_blockE);exact rfl)|(with_reducible apply end_ret)|exact rvs_nil|(with_reducible apply rvs_cons)|((with_reducible apply rv_tmp);exact rfl))
    all_goals (rw [windB_yes hl.symm.symm h0 (fun j hj=>hkp j (by omega))];rfl)
end Go.Proofs.Ytcjkndjjbjoehaa
namespace Go.Proofs.Ytcjkndjjbjoehaa
def belowG (l:List Gl) (p:Int) (i:Nat):Bool:=match l[i]?,l[i+1]? with|some x,some y=>decide (x.h<p) && decide (y.h<p)|_,_=>false
def aboveG (l:List Gl) (q:Int) (i:Nat):Bool:=match l[i]?,prevG l i with|some x,some y=>decide (q<x.h) && decide (q<y.h)|_,_=>false
def cntG (l:List Gl) (p q:Int) (i:Nat):Bool:=!belowG l p i && !aboveG l q i
def guAt (l:List Gl) (i:Nat):Int:=match l[i]? with|some x=>x.gust|none=>0
def gustR (l:List Gl) (p q:Int):Nat→Int|0=>0|k+1=>if cntG l p q k then max (gustR l p q k) (guAt l k) else gustR l p q k
def gustV (l:List Gl) (p q:Int):Int:=gustR l p q l.length
theorem gustR_yes {l:List Gl} {p q:Int} {k:Nat} {x:Gl} (hx:l[k]?=some x) (h:cntG l p q k=true):gustR l p q (k+1)=max (gustR l p q k) x.gust:=by
 simp only [gustR,h,if_true,guAt,hx]
theorem gustR_no {l:List Gl} {p q:Int} {k:Nat} (h:cntG l p q k=false):gustR l p q (k+1)=gustR l p q k:=by
 simp only [gustR,h,Bool.false_eq_true,if_false]
theorem below_last {l:List Gl} {p:Int} {i:Nat} (h:l[i+1]?=none):belowG l p i=false:=by unfold belowG;rw [h];cases l[i]?<;>rfl
theorem below_at {l:List Gl} {p:Int} {i:Nat} {x y:Gl} (hx:l[i]?=some x) (hy:l[i+1]?=some y):belowG l p i=(decide (x.h<p) && decide (y.h<p)):=by unfold belowG;rw [hx,hy]
theorem above_zero {l:List Gl} {q:Int}:aboveG l q 0=false:=by unfold aboveG prevG;cases l[0]?<;>rfl
theorem above_at {l:List Gl} {q:Int} {i:Nat} {x y:Gl} (hx:l[i+1]?=some x) (hy:l[i]?=some y):aboveG l q (i+1)=(decide (q<x.h) && decide (q<y.h)):=by
 unfold aboveG
 rw [hx,show prevG l (i+1)=some y from hy]
theorem gustR_bounds {l:List Gl} {p q:Int} (h:∀ x∈l,0≤x.gust∧x.gust≤500):∀ k,0≤gustR l p q k∧gustR l p q k≤500
 | 0=>by simp [gustR]
 | k+1=>by
   have ih:=gustR_bounds h (p:=p) (q:=q) k
   simp only [gustR]
   split
   · unfold guAt
     cases hk:l[k]? with
     | none=>simp only;omega
     | some x=>
       have:=h x (List.mem_of_getElem? hk)
       simp only;omega
   · exact ih
theorem Wnd.mono {l:List Gl} (h:Wnd l) {i:Nat} {x:Gl} (hx:l[i]?=some x):∀ {j:Nat} {y:Gl},l[j]?=some y→i≤j→x.h≤y.h∧(i<j→x.h<y.h)
 | 0,y,hy,hij=>by
   obtain rfl:i=0:=by omega
   rw [hx] at hy
   obtain rfl:=Option.some.inj hy
   exact ⟨Int.le_refl _,fun h=>absurd h (Nat.lt_irrefl _)⟩
 | j+1,y,hy,hij=>by
   rcases Nat.lt_or_ge i (j+1) with k|k
   · have hj:j<l.length:=by have:=(List.getElem?_eq_some_iff.1 hy).1;omega
     have hz:l[j]?=some l[j]:=List.getElem?_eq_getElem hj
     have h1:=(h.mono hx hz (by omega)).1
     have h2:=h.rise hz hy
     exact ⟨by omega,fun _=>by omega⟩
   · obtain rfl:i=j+1:=by omega
     rw [hx] at hy
     obtain rfl:=Option.some.inj hy
     exact ⟨Int.le_refl _,fun h=>absurd h (Nat.lt_irrefl _)⟩
theorem wnd_split {l:List Gl} (h:Wnd l) (f:Int→Bool) (hf:∀ a b,a≤b→f a=true→f b=true):∃ r,r≤l.length∧(∀ j x,j<r→l[j]?=some x→f x.h=false)∧(∀ j x,r≤j→l[j]?=some x→f x.h=true):=by
 have key:∀ n,n≤l.length→∃ r,r≤n∧(∀ j x,j<r→l[j]?=some x→f x.h=false)∧(∀ j x,r≤j→j<n→l[j]?=some x→f x.h=true):=by
   intro n
   induction n with
   | zero=>exact fun _=>⟨0,Nat.le_refl _,fun j x hj=>absurd hj (by omega),fun j x h1 h2=>by omega⟩
   | succ n ih=>
     intro hn
     obtain ⟨r,hr,h1,h2⟩:=ih (by omega)
     have hk:l[n]?=some l[n]:=List.getElem?_eq_getElem (by omega)
     by_cases hrn:r=n
     · subst hrn
       cases hv:f l[r].h with
       | true=>
         refine ⟨r,by omega,h1,fun j x hj hj2 hx=>?_⟩
         obtain rfl:j=r:=by omega
         rw [hk] at hx
         obtain rfl:=Option.some.inj hx
         exact hv
       | false=>
         refine ⟨r+1,by omega,fun j x hj hx=>?_,fun j x hj hj2=>by omega⟩
         rcases Nat.lt_or_ge j r with k|k
         · exact h1 j x k hx
         · obtain rfl:j=r:=by omega
           rw [hk] at hx
           obtain rfl:=Option.some.inj hx
           exact hv
     · refine ⟨r,by omega,h1,fun j x hj hj2 hx=>?_⟩
       rcases Nat.lt_or_ge j n with k|k
       · exact h2 j x hj k hx
       · obtain rfl:j=n:=by omega
         have hr':l[r]?=some l[r]:=List.getElem?_eq_getElem (by omega)
         exact hf _ _ (h.mono hr' hx hj).1 (h2 r _ (Nat.le_refl _) (by omega) hr')
 obtain ⟨r,h0,h1,h2⟩:=key l.length (Nat.le_refl _)
 exact ⟨r,h0,h1,fun j x hj hx=>h2 j x hj (List.getElem?_eq_some_iff.1 hx).1 hx⟩
theorem belowG_iff {l:List Gl} {p:Int} {a i:Nat} (h:Wnd l) (h1:∀ j x,j<a→l[j]?=some x→x.h<p) (h2:∀ j x,a≤j→l[j]?=some x→p≤x.h) (hi:i<l.length):belowG l p i=decide (i+1<a∧i+1<l.length):=by
 have hx:l[i]?=some l[i]:=List.getElem?_eq_getElem hi
 by_cases hn:i+1<l.length
 · have hy:l[i+1]?=some l[i+1]:=List.getElem?_eq_getElem hn
   rw [below_at hx hy]
   by_cases ha:i+1<a
   · have k1:=h1 _ _ ha hy
     have k2:=h1 _ _ (by omega) hx
     simp [ha,hn,k1,k2]
   · have k1:=h2 _ _ (by omega) hy
     have:¬ l[i+1].h<p:=by omega
     simp [ha,this]
 · rw [below_last (List.getElem?_eq_none (by omega))]
   simp [hn]
theorem aboveG_iff {l:List Gl} {q:Int} {b i:Nat} (h:Wnd l) (h1:∀ j x,j<b→l[j]?=some x→x.h≤q) (h2:∀ j x,b≤j→l[j]?=some x→q<x.h) (hi:i<l.length):aboveG l q i=decide (b+1≤i):=by
 have hx:l[i]?=some l[i]:=List.getElem?_eq_getElem hi
 cases i with
 | zero=>rw [above_zero];simp
 | succ j=>
   have hy:l[j]?=some l[j]:=List.getElem?_eq_getElem (by omega)
   rw [above_at hx hy]
   by_cases hb:b≤j
   · have k1:=h2 _ _ hb hy
     have k2:=h2 _ _ (by omega) hx
     simp [hb,k1,k2]
   · have k1:=h1 _ _ (by omega) hy
     have:¬ q<l[j].h:=by omega
     simp [hb,this]
theorem cntG_iff {l:List Gl} {p q:Int} {a b i:Nat} (h:Wnd l) (h1:∀ j x,j<a→l[j]?=some x→x.h<p) (h2:∀ j x,a≤j→l[j]?=some x→p≤x.h)
   (h3:∀ j x,j<b→l[j]?=some x→x.h≤q) (h4:∀ j x,b≤j→l[j]?=some x→q<x.h) (ha:a≤l.length) (hi:i<l.length):cntG l p q i=decide (a-1≤i∧i<b+1):=by
 unfold cntG
 rw [belowG_iff h h1 h2 hi,aboveG_iff h h3 h4 hi,Bool.eq_iff_iff]
 simp only [Bool.and_eq_true,Bool.not_eq_true',decide_eq_false_iff_not,decide_eq_true_eq]
 omega
theorem gustR_from {l:List Gl} {p q:Int} {a:Nat}:∀ k,k≤a→(∀ i,i<a→cntG l p q i=false)→gustR l p q k=0
 | 0,_,_=>rfl
 | k+1,hk,h=>by rw [gustR_no (h k (by omega))];exact gustR_from k (by omega) h
theorem gustR_to {l:List Gl} {p q:Int} {b:Nat}:∀ k,b≤k→(∀ i,b≤i→i<k→cntG l p q i=false)→gustR l p q k=gustR l p q b
  | 0, hk, _ => by obtain rfl : b = 0 := by omega
                   rfl
  | k+1,hk,h=>by
    rcases Nat.lt_or_ge k b with h1|h1
    · obtain rfl:b=k+1:=by omega
      rfl
    · rw [gustR_no (h k h1 (by omega))]
      exact gustR_to k h1 fun i hi hik=>h i hi (by omega)
end Go.Proofs.Ytcjkndjjbjoehaa
namespace Go.Proofs.Ytcjkndjjbjoehaa
open Go.RowKit
attribute [local irreducible] OQ OS OX Rd T TL GX GL AL AI RV wpG SAny Calls
theorem ge1_calls (A:Option Addr) (n c:Nat) (l:List Gl) (p q:Int) (b2 b3 j:Nat) (hj:j<n) (x:Gl) (hx:l[j]?=some x) (w:World) (hr:RdS w 6 A n (l.map glCells)) (m0:w.cell? ⟨b2,0,none⟩=some (.slice A n c)) (m1:w.cell? ⟨b3,0,none⟩=some (.int .i64 p)) (m2:w.cell? ⟨b3,0+1,none⟩=some (.int .i64 q)) :
   Calls Try.prog 67 #[.int .i64 (j:Int),.pointer (some ⟨b2,0,none⟩),.pointer (some ⟨b3,0,none⟩)] w fun e w'=>e=.returned (.bool (decide (p≤x.h)))∧Ext w w':=by
 obtain ⟨b,o,x',rfl,_,hx',c0,c1,c2,c3,c4,c5⟩:=gl_read hr hj
 obtain rfl:x'=x:=by rw [hx'] at hx;exact Option.some.inj hx
 refine enterQ (c:=cx w 13) Try.func67 rfl rfl rfl rfl ?_
 repeat' (first|((with_reducible apply oq_id);first|(focus ((with_reducible apply oq_indexAddrN);(iterate 4 exact rfl);omega))|(apply oq_fn;exact rfl;first|exact trivial|(and_intros<;>omega)|omega|skip)|((with_reducible apply oq_load);exact rfl;exact rfl))|((with_reducible apply tl_id);first|(with_reducible apply tl_nil)|((with_reducible apply u_q);(iterate 4 exact rfl)))|((with_reducible apply gx_id);first|(with_reducible apply v_nil)|((with_reducible apply v_q);(iterate 3 exact rfl)))|((with_reducible apply rd_id);first|(apply Rd.old;(first|exact m0|exact m1|exact m2);exact List.not_mem_nil)|(apply Rd.old;(first|(with_reducible assumption)|exact c0|exact c1|exact c2|exact c3|exact c4|exact c5);first|exact List.not_mem_nil|exact m0|exact m1|exact m2))|((with_reducible apply t_id);first|(with_reducible apply t_seq)|(apply t_region;kernel_rfl)|(apply t_drawn;kernel_rfl;decide +kernel)|(with_reducible apply t_ret))|with_reducible apply q_thenN|(with_reducible apply end_ret)|exact rvs_nil|(with_reducible apply rvs_cons)|((with_reducible apply rv_tmp);exact rfl))
 all_goals rfl
theorem gt1_calls (A:Option Addr) (n c:Nat) (l:List Gl) (p q:Int) (b2 b3 j:Nat) (hj:j<n) (x:Gl) (hx:l[j]?=some x) (w:World) (hr:RdS w 6 A n (l.map glCells)) (m0:w.cell? ⟨b2,0,none⟩=some (.slice A n c)) (m1:w.cell? ⟨b3,0,none⟩=some (.int .i64 p)) (m2:w.cell? ⟨b3,0+1,none⟩=some (.int .i64 q)) :
   Calls Try.prog 68 #[.int .i64 (j:Int),.pointer (some ⟨b2,0,none⟩),.pointer (some ⟨b3,0,none⟩)] w fun e w'=>e=.returned (.bool (decide (q<x.h)))∧Ext w w':=by
 obtain ⟨b,o,x',rfl,_,hx',c0,c1,c2,c3,c4,c5⟩:=gl_read hr hj
 obtain rfl:x'=x:=by rw [hx'] at hx;exact Option.some.inj hx
 refine enterQ (c:=cx w 13) Try.func68 rfl rfl rfl rfl ?_
 repeat' (first|((with_reducible apply oq_id);first|(focus ((with_reducible apply oq_indexAddrN);(iterate 4 exact rfl);omega))|(apply oq_fn;exact rfl;first|exact trivial|(and_intros<;>omega)|omega|skip)|((with_reducible apply oq_load);exact rfl;exact rfl))|((with_reducible apply tl_id);first|(with_reducible apply tl_nil)|((with_reducible apply u_q);(iterate 4 exact rfl)))|((with_reducible apply gx_id);first|(with_reducible apply v_nil)|((with_reducible apply v_q);(iterate 3 exact rfl)))|((with_reducible apply rd_id);first|(apply Rd.old;(first|exact m0|exact m1|exact m2);exact List.not_mem_nil)|(apply Rd.old;(first|(with_reducible assumption)|exact c0|exact c1|exact c2|exact c3|exact c4|exact c5);first|exact List.not_mem_nil|exact m0|exact m1|exact m2))|((with_reducible apply t_id);first|(with_reducible apply t_seq)|(apply t_region;kernel_rfl)|(apply t_drawn;kernel_rfl;decide +kernel)|(with_reducible apply t_ret))|with_reducible apply q_thenN|(with_reducible apply end_ret)|exact rvs_nil|(with_reducible apply rvs_cons)|((with_reducible apply rv_tmp);exact rfl))
 all_goals rfl
theorem srchGe {w:World} {D:List Nat} {H H1 H2:Hp} {b2 b3:Nat} {tg tg':Tg} {A:Option Addr} {n c:Nat} {l:List Gl} (hr:RdS w 6 A n (l.map glCells)) (hn:n≤1000000) (p q:Int) (r:Nat) (hr1:r≤n) (h1:∀ j x,j<r→l[j]?=some x→x.h<p) (h2:∀ j x,r≤j→l[j]?=some x→p≤x.h)
   (w1:World) (hw:Has w ⟨[],D⟩ H w1) (p1:Pick H b2 [.slice A n c] tg H1) (p2:Pick H b3 [.int .i64 p,.int .i64 q] tg' H2) :
   Calls Try.prog 66 #[.int .i64 (n:Int),.func (.func 67) #[] ⟨[.pointer (some ⟨b2,0,none⟩),.pointer (some ⟨b3,0,none⟩)]⟩] w1 fun e w'=>e=.returned (.int .i64 (r:Int))∧Ext w1 w':=by
 have hl:=hr.len
 simp only [List.length_map] at hl
 have m0:=hw.cellAt p1 (o:=0) rfl
 have m1:=hw.cellAt p2 (o:=0) rfl
 have m2:=hw.cellAt p2 (o:=1) rfl
 refine search_calls 67 _ n r (fun j=>match l[j]? with|some x=>decide (p≤x.h)|none=>true) (by omega) hr1 (fun j hj=>?_) (fun j hj hjn=>?_) w1 Try.call67 (fun j hj w2 hx=>?_)
 · have:l[j]?=some l[j]:=List.getElem?_eq_getElem (by omega)
   have h:=h1 j _ hj this
   simp only [this]
   simpa using h
 · have:l[j]?=some l[j]:=List.getElem?_eq_getElem (by omega)
   have h:=h2 j _ hj this
   simp only [this]
   simpa using h
 · have:l[j]?=some l[j]:=List.getElem?_eq_getElem (by omega)
   simp only [this]
   exact ge1_calls A n c l p q b2 b3 j hj _ this w2 (hr.ext (hw.ext.ext.trans hx)) (hx.cell m0) (hx.cell m1) (hx.cell m2)
theorem srchGt {w:World} {D:List Nat} {H H1 H2:Hp} {b2 b3:Nat} {tg tg':Tg} {A:Option Addr} {n c:Nat} {l:List Gl} (hr:RdS w 6 A n (l.map glCells)) (hn:n≤1000000) (p q:Int) (r:Nat) (hr1:r≤n) (h1:∀ j x,j<r→l[j]?=some x→x.h≤q) (h2:∀ j x,r≤j→l[j]?=some x→q<x.h)
   (w1:World) (hw:Has w ⟨[],D⟩ H w1) (p1:Pick H b2 [.slice A n c] tg H1) (p2:Pick H b3 [.int .i64 p,.int .i64 q] tg' H2) :
   Calls Try.prog 66 #[.int .i64 (n:Int),.func (.func 68) #[] ⟨[.pointer (some ⟨b2,0,none⟩),.pointer (some ⟨b3,0,none⟩)]⟩] w1 fun e w'=>e=.returned (.int .i64 (r:Int))∧Ext w1 w':=by
 have hl:=hr.len
 simp only [List.length_map] at hl
 have m0:=hw.cellAt p1 (o:=0) rfl
 have m1:=hw.cellAt p2 (o:=0) rfl
 have m2:=hw.cellAt p2 (o:=1) rfl
 refine search_calls 68 _ n r (fun j=>match l[j]? with|some x=>decide (q<x.h)|none=>true) (by omega) hr1 (fun j hj=>?_) (fun j hj hjn=>?_) w1 Try.call68 (fun j hj w2 hx=>?_)
 · have:l[j]?=some l[j]:=List.getElem?_eq_getElem (by omega)
   have h:=h1 j _ hj this
   simp only [this]
   simpa using h
 · have:l[j]?=some l[j]:=List.getElem?_eq_getElem (by omega)
   have h:=h2 j _ hj this
   simp only [this]
   simpa using h
 · have:l[j]?=some l[j]:=List.getElem?_eq_getElem (by omega)
   simp only [this]
   exact gt1_calls A n c l p q b2 b3 j hj _ this w2 (hr.ext (hw.ext.ext.trans hx)) (hx.cell m0) (hx.cell m1) (hx.cell m2)
def partG (e:Bool) (x:Gl):Int×Int:=match e with|true=>(x.xlo,x.xhi)|false=>(x.ylo,x.yhi)
def knG (e:Bool) (x:Gl):Kn:=⟨x.h,(partG e x).1,(partG e x).2⟩
def tabG (e:Bool) (l:List Gl):List Kn:=l.map (knG e)
def hAt (l:List Gl) (i:Nat):Int:=match l[i]? with|some x=>x.h|none=>0
def clampG (l:List Gl) (h:Int):Int:=min (max h (hAt l 0)) (hAt l (l.length-1))
def steadyV (e:Bool) (l:List Gl) (p q:Int):Int×Int:=
 if l.length=1 then (match l[0]? with|some x=>partG e x|none=>(0,0)) else valV (tabG e l) (clampG l p) (clampG l q)
theorem tabG_at {e:Bool} {l:List Gl} {i:Nat} {k:Kn} (h:(tabG e l)[i]?=some k):∃ x,l[i]?=some x∧k=knG e x:=by
 unfold tabG at h
 rw [List.getElem?_map,Option.map_eq_some_iff] at h
 obtain ⟨x,h1,h2⟩:=h
 exact ⟨x,h1,h2.symm⟩
theorem tabG_fst {e:Bool} {l:List Gl} {m:Nat} {x:Gl} {p:Int} (hx:l[m]?=some x) (h:x.h≤p) (k:Kn) (hk:(tabG e l)[m]?=some k):k.x≤p:=by
 obtain ⟨z,hz,rfl⟩:=tabG_at hk
 rw [hx] at hz
 obtain rfl:=Option.some.inj hz
 exact h
theorem tabG_lst {e:Bool} {l:List Gl} {m:Nat} {y:Gl} {q:Int} (hy:l[m]?=some y) (h:q≤y.h) (k:Kn) (hk:(tabG e l)[m]?=some k):q≤k.x:=by
 obtain ⟨z,hz,rfl⟩:=tabG_at hk
 rw [hy] at hz
 obtain rfl:=Option.some.inj hz
 exact h
theorem incr_ofG:∀ {t:List Kn},(∀ {i:Nat} {a b:Kn},t[i]?=some a→t[i+1]?=some b→a.x<b.x)→Incr t
 | [],_=>.nil
 | [a],_=>.one a
 | a::b::r,h=>.cons (h (i:=0) rfl rfl) (incr_ofG (fun {i x y} hx hy=>h (i:=i+1) (by simpa using hx) (by simpa using hy)))
theorem Wnd.tab {e:Bool} {l:List Gl} (h:Wnd l) (h2:2≤l.length):TabOk (tabG e l):=by
 have h16:=h.n16
 refine ⟨by simpa [tabG] using h2,by simp [tabG];omega,incr_ofG (fun {i a b} ha hb=>?_),fun k hk=>?_⟩
 · obtain ⟨x,hx,rfl⟩:=tabG_at ha
   obtain ⟨y,hy,rfl⟩:=tabG_at hb
   exact h.rise hx hy
 · obtain ⟨x,hx,rfl⟩:=List.mem_map.1 hk
   have:=h.ok x hx
   cases e
   · show -100000≤x.h∧x.h≤100000∧-100000≤x.ylo∧x.ylo≤x.yhi∧x.yhi≤100000
     omega
   · show -100000≤x.h∧x.h≤100000∧-100000≤x.xlo∧x.xlo≤x.xhi∧x.xhi≤100000
     omega
theorem flatG (t:List Kn):(t.map knCells).flatten.length=t.length*3:=by
 induction t with
 | nil=>rfl
 | cons x t ih=>simp [knCells] at ih ⊢;omega
theorem tabG_snoc {e:Bool} {l:List Gl} {k:Nat} {x:Gl} (h:l[k]?=some x):((tabG e (l.take (k+1))).map knCells).flatten=((tabG e (l.take k)).map knCells).flatten++[.int .i64 x.h,.int .i64 (partG e x).1,.int .i64 (partG e x).2]:=by
 rw [List.take_add_one,h]
 simp [tabG,knG,knCells]
theorem tabG_len {e:Bool} {l:List Gl} {k n:Nat} (hl:l.length=n) (hk:k≤n):((tabG e (l.take k)).map knCells).flatten.length=k*3:=by
 rw [flatG];unfold tabG;rw [List.length_map,List.length_take];omega
theorem tabG_rows {e:Bool} {l:List Gl} {n g:Nat} {tg:Tg} {w0:World} {M:Ms} {H H':Hp} {w:World} (hl:l.length=n) (h:Has w0 M H w) (p:Pick H g ((tabG e l).map knCells).flatten tg H'):RdS w 3 (some ⟨g,0,none⟩) n ((tabG e l).map knCells):=
 (h.blk _ p.mem).2.rows (k:=3) (by simp [tabG,hl]) (by simp only [List.mem_map];rintro r ⟨z,_,rfl⟩;rfl)
theorem tabG_cell {e:Bool} {l:List Gl} {i:Nat} {x:Gl} (h:l[i]?=some x):((tabG e l).map knCells).flatten[0+i*3]?=some (.int .i64 x.h)∧((tabG e l).map knCells).flatten[0+i*3+1]?=some (.int .i64 (partG e x).1)∧((tabG e l).map knCells).flatten[0+i*3+2]?=some (.int .i64 (partG e x).2):=by
 induction l generalizing i with
 | nil=>simp at h
 | cons y l ih=>
   cases i with
   | zero=>
     obtain rfl:y=x:=by simpa using h
     exact ⟨rfl,rfl,rfl⟩
   | succ i=>
     have:=ih (i:=i) (by simpa using h)
     have e3:0+(i+1)*3=0+i*3+1+1+1:=by omega
     rw [e3]
     exact this
theorem eq_kn {w:World} {d:Nat} {a0 a1 a2 b0 b1 b2:Int}:(Op.equalIn (d+3) 211 (.agg ⟨[.int .i64 a0,.int .i64 a1,.int .i64 a2]⟩) (.agg ⟨[.int .i64 b0,.int .i64 b1,.int .i64 b2]⟩)).run Try.prog w=.ok (decide (a0=b0∧a1=b1∧a2=b2)) w:=by
 rw [run_equalIn_struct w (d+2) 211 _ _ (by kernel_rfl) (by kernel_rfl)]
 simp only [Program.fieldsOf,Try.underlying211]
 refine Eq.trans (eqF_int rfl rfl rfl rfl rfl (eqF_span rfl rfl rfl rfl rfl eqF_nil)) ?_
 congr 1
 rw [Bool.eq_iff_iff]
 simp [and_assoc]
section
variable {w:World} {N:Nat} {F:Fr} {H:Hp} {M:List Nat} {d:Option Tmp} {ty t':TypeId} {pos:String} {af:Array Edge} {g:Option (Nat×Bool)} {x y:Operand} {a0 a1 a2 b0 b1 b2:Int}
theorem oq_eq211 (hx:ev F x=some (.agg ⟨[.int .i64 a0,.int .i64 a1,.int .i64 a2]⟩)) (hy:ev F y=some (.agg ⟨[.int .i64 b0,.int .i64 b1,.int .i64 b2]⟩)) :
   OQ (cxM M w N) ⟨d,.binOp .eql 211 x y t',ty,pos,af,g⟩ F H (.bool (decide (a0=b0∧a1=b1∧a2=b2))):=oq_eqS (by kernel_rfl) (fun w=>eq_kn (d:=9997)) hx hy
end
theorem eastG_calls (a b c d:Int) (w:World):Calls Try.prog 71 #[.agg #[.int .i64 a,.int .i64 b,.int .i64 c,.int .i64 d]] w fun e w'=>e=.returned (.agg #[.int .i64 a,.int .i64 b])∧Ext w w':=by
 refine enterQ (c:=cx w 5) Try.func71 rfl rfl rfl rfl ?_
 repeat' (first|((with_reducible apply oq_id);first|(apply oq_fn;exact rfl;first|exact trivial|(and_intros<;>omega)|omega|skip)|((with_reducible apply oq_loadAgg);exact rfl;exact rfl))|((with_reducible apply tl_id);first|(with_reducible apply tl_nil)|((with_reducible apply u_q);(iterate 4 exact rfl))|((with_reducible apply u_s0);exact rfl;exact rfl)|((with_reducible apply u_s);(iterate 3 exact rfl)))|((with_reducible apply os_id);first|((with_reducible apply os_x);exact rfl)|((with_reducible apply os_storeAgg);(iterate 5 exact rfl)))|((with_reducible apply ox_id);first|((with_reducible apply ox_alloc);exact rfl;intro _)|((with_reducible apply ox_boxAgg);exact rfl;intro _))|((with_reducible apply rd_id);first|(apply Rd.own;(repeat first|exact P0|apply P1);exact rfl;done))|((with_reducible apply t_id);first|(with_reducible apply t_seq)|(apply t_region;kernel_rfl)|(with_reducible apply t_ret))|with_reducible apply q_thenN|exact P0|exact Rdn.zero|apply Rdn.succ|((with_reducible apply Norm.nil);exact rfl)|((with_reducible apply Norm.cons);exact rfl)|(with_reducible apply end_ret)|exact rvs_nil|(with_reducible apply rvs_cons)|((with_reducible apply rv_cellAgg);exact rfl;exact rfl)|exact Nat.le_of_ble_eq_true rfl)
 all_goals rfl
theorem northG_calls (a b c d:Int) (w:World):Calls Try.prog 72 #[.agg #[.int .i64 a,.int .i64 b,.int .i64 c,.int .i64 d]] w fun e w'=>e=.returned (.agg #[.int .i64 c,.int .i64 d])∧Ext w w':=by
 refine enterQ (c:=cx w 5) Try.func72 rfl rfl rfl rfl ?_
 repeat' (first|((with_reducible apply oq_id);first|(apply oq_fn;exact rfl;first|exact trivial|(and_intros<;>omega)|omega|skip)|((with_reducible apply oq_loadAgg);exact rfl;exact rfl))|((with_reducible apply tl_id);first|(with_reducible apply tl_nil)|((with_reducible apply u_q);(iterate 4 exact rfl))|((with_reducible apply u_s0);exact rfl;exact rfl)|((with_reducible apply u_s);(iterate 3 exact rfl)))|((with_reducible apply os_id);first|((with_reducible apply os_x);exact rfl)|((with_reducible apply os_storeAgg);(iterate 5 exact rfl)))|((with_reducible apply ox_id);first|((with_reducible apply ox_alloc);exact rfl;intro _)|((with_reducible apply ox_boxAgg);exact rfl;intro _))|((with_reducible apply rd_id);first|(apply Rd.own;(repeat first|exact P0|apply P1);exact rfl;done))|((with_reducible apply t_id);first|(with_reducible apply t_seq)|(apply t_region;kernel_rfl)|(with_reducible apply t_ret))|with_reducible apply q_thenN|exact P0|exact Rdn.zero|apply Rdn.succ|((with_reducible apply Norm.nil);exact rfl)|((with_reducible apply Norm.cons);exact rfl)|(with_reducible apply end_ret)|exact rvs_nil|(with_reducible apply rvs_cons)|((with_reducible apply rv_cellAgg);exact rfl;exact rfl)|exact Nat.le_of_ble_eq_true rfl)
 all_goals rfl
theorem clamp0_calls (b1 b2:Nat) (f l h:Int) (w:World) (m0:w.cell? ⟨b1,0,none⟩=some (.int .i64 f)) (m1:w.cell? ⟨b2,0,none⟩=some (.int .i64 l)) :
   Calls Try.prog 125 #[.int .i64 h,.pointer (some ⟨b1,0,none⟩),.pointer (some ⟨b2,0,none⟩)] w fun e w'=>e=.returned (.int .i64 (min (max h f) l))∧Ext w w':=by
 refine enterQ (c:=cx w 12) Try.func125 rfl rfl rfl rfl ?_
 repeat' (first|((with_reducible apply oq_id);first|(apply oq_fn;exact rfl;first|exact trivial|(and_intros<;>omega)|omega|skip)|((with_reducible apply oq_load);exact rfl;exact rfl))|((with_reducible apply tl_id);first|(with_reducible apply tl_nil)|((with_reducible apply u_q);(iterate 4 exact rfl)))|((with_reducible apply rd_id);first|(apply Rd.old;(first|exact m0|exact m1);exact List.not_mem_nil))|((with_reducible apply t_id);first|(with_reducible apply t_seq)|(apply t_region;kernel_rfl)|(with_reducible apply t_ret))|with_reducible apply q_thenN|(with_reducible apply end_ret)|exact rvs_nil|(with_reducible apply rvs_cons)|((with_reducible apply rv_tmp);exact rfl))
 all_goals rfl
theorem clamp1 {w0:World} {M:Ms} {H H1 H2:Hp} {w1:World} {b1 b2:Nat} {f f1 f2 l l1 l2 h:Int} {tg tg':Tg} (hw:Has w0 M H w1) (p1:Pick H b1 [.int .i64 f,.int .i64 f1,.int .i64 f2] tg H1) (p2:Pick H b2 [.int .i64 l,.int .i64 l1,.int .i64 l2] tg' H2) :
   Calls Try.prog 125 #[.int .i64 h,.pointer (some ⟨b1,0,none⟩),.pointer (some ⟨b2,0,none⟩)] w1 fun e w'=>e=.returned (.int .i64 (min (max h f) l))∧Ext w1 w':=
 clamp0_calls b1 b2 f l h w1 (hw.cellAt p1 rfl) (hw.cellAt p2 rfl)
def GFr (a b:Nat):Nat×Option (Nat×Nat)→Fr
 | (k,none)=>[(a,.slice none 0 0),(b,.int .i64 (k:Int))]
 | (k,some (g,cap))=>[(a,.slice (some ⟨g,0,none⟩) k cap),(b,.int .i64 (k:Int))]
def GHp (e:Bool) (l:List Gl):Nat×Option (Nat×Nat)→Hp
 | (_,none)=>[]
 | (k,some (g,cap))=>[(g,((tabG e (l.take k)).map knCells).flatten,some (211,3,cap))]
def GPi (n:Nat):Nat×Option (Nat×Nat)→Prop
 | (k,none)=>k=0
 | (k,some _)=>0<k∧k≤n
theorem layers_calls (f:Nat) (e:Bool) (A:Option Addr) (n c:Nat) (l:List Gl) (p q:Int) (w:World) (hr:RdS w 6 A n (l.map glCells)) (hW:Wnd l) (hpq:p≤q) (hc:∀ (a:Array Value) (w:World),(callFunc f a).run Try.prog w=.ok (.enter f a) w)
   (hf:∀ (x:Gl) w1,Calls Try.prog f #[.agg #[.int .i64 x.xlo,.int .i64 x.xhi,.int .i64 x.ylo,.int .i64 x.yhi]] w1 fun u w'=>u=.returned (.agg #[.int .i64 (partG e x).1,.int .i64 (partG e x).2])∧Ext w1 w') :
   Calls Try.prog 70 #[.slice A n c,.agg #[.int .i64 p,.int .i64 q],.func (.func f) #[] #[]] w fun u w'=>u=.returned (.agg #[.int .i64 (steadyV e l p q).1,.int .i64 (steadyV e l p q).2])∧Ext w w':=by
 have hl:=hr.len
 simp only [List.length_map] at hl
 have hn0:0<n:=by have:=hW.n1;omega
 have hn16:n≤16:=by have:=hW.n16;omega
 have hfx0:=hf
 refine enterQ (c:=cx w 62) Try.func70 rfl rfl rfl rfl ?_
 repeat' (first|((with_reducible apply oq_id);first|(apply oq_fn;exact rfl;first|exact trivial|(and_intros<;>omega)|omega|skip))|((with_reducible apply tl_id);first|(with_reducible apply tl_nil)|((with_reducible apply u_q);(iterate 4 exact rfl))|((with_reducible apply u_s);(iterate 3 exact rfl)))|((with_reducible apply os_id);first|((with_reducible apply os_x);exact rfl))|((with_reducible apply ox_id);first|((with_reducible apply ox_alloc);exact rfl;intro _)|((with_reducible apply ox_boxAgg);exact rfl;intro _))|((with_reducible apply t_id);first|(with_reducible apply t_seq)|(apply t_region;kernel_rfl)|(with_reducible apply t_block))|with_reducible apply q_thenN)
 apply t_loopK (ι:=(Nat×Option (Nat×Nat))) [2,4,6,10,11,12,13,15,16,32,33,34,35,36,37,38,39,40,41,42,43,44,45,46,47,48,49,50,51,52,53,54,55,56,57,58,59,60,61] (GFr 7 17) (GHp e l) (GPi n) (fun i=>n-i.1) ((0,none))
 (repeat (first|exact KeepF.nil|(apply KeepF.cons;exact rfl)|apply KeepF.skip))
 (repeat first|exact FrSub.nil|(apply FrSub.cons;exact rfl))
 (repeat (first|exact HpSub.refl _|(apply HpSub.consE;(repeat first|exact P0|apply P1);exact rfl)|exact HpSub.nil))
 · exact rfl
 rintro ⟨k,i⟩ hi
 dsimp only
 rcases i with _|⟨g,cap⟩
 · obtain rfl:k=0:=hi
   simp only [GFr,GHp,List.cons_append,List.nil_append]
   obtain ⟨b,o,x,rfl,_,hx,c0,c1,c2,c3,c4,c5⟩:=gl_read hr hn0
   repeat' (first|((with_reducible apply oq_id);first|(focus ((with_reducible apply oq_indexAddrN);(iterate 4 exact rfl);omega))|(apply oq_fn;exact rfl;first|exact trivial|(and_intros<;>omega)|omega|skip)|((with_reducible apply oq_load);exact rfl;exact rfl)|((with_reducible apply oq_loadAgg);exact rfl;exact rfl)|((with_reducible apply oq_call (k:=f) (hc:=hc));exact rfl;exact rfl;exact fun D w1 hw1=>hf x w1)|((with_reducible apply oq_build);(iterate 3 exact rfl)))|((with_reducible apply tl_id);first|(with_reducible apply tl_nil)|((with_reducible apply u_q);(iterate 4 exact rfl))|((with_reducible apply u_s0);exact rfl;exact rfl)|((with_reducible apply u_s);(iterate 3 exact rfl)))|((with_reducible apply gx_id);first|(with_reducible apply v_nil)|((with_reducible apply v_q);(iterate 3 exact rfl)))|((with_reducible apply os_id);first|((with_reducible apply os_x);exact rfl)|((with_reducible apply os_storeAgg);(iterate 5 exact rfl))|((with_reducible apply os_appendNil (hk:=app_ok209));exact rfl;exact rfl))|((with_reducible apply ox_id);first|((with_reducible apply ox_alloc);exact rfl;intro _)|((with_reducible apply ox_buildSlice);(iterate 4 exact rfl)))|((with_reducible apply ai_id);first|((with_reducible apply ai_q);(iterate 5 exact rfl))|((with_reducible apply ai_x);(iterate 5 exact rfl))|((with_reducible apply ai_s);(iterate 5 exact rfl)))|((with_reducible apply rd_id);first|(apply Rd.own;(repeat first|exact P0|apply P1);exact rfl;done)|(apply Rd.old;(first|(with_reducible assumption)|exact c0|exact c1|exact c2|exact c3|exact c4|exact c5);first|exact List.not_mem_nil))|((with_reducible apply t_id);first|(with_reducible apply t_seq)|(apply t_region;kernel_rfl)|((with_reducible apply t_condD);exact rfl;all_goals first|(intro hp;try (exfalso;omega))|skip)|(with_reducible apply t_skip)|(with_reducible apply t_block))|with_reducible apply q_thenN|with_reducible apply q_blockN|exact P0|exact Rdn.zero|apply Rdn.succ|((with_reducible apply Norm.nil);exact rfl)|((with_reducible apply Norm.cons);exact rfl)|(apply t_mix (id:=5) [0,1,2,3,4,5,6,7] 3 #[false,false,false,false,false,false,false,false,false,true,false];kernel_rfl;kernel_rfl;exact rfl)|((with_reducible apply al_id);first|(apply al_done;decide +kernel)|(apply al_one 8;decide +kernel)|(apply al_one 9;decide +kernel)|(apply al_one 10;decide +kernel))|exact Nat.le_of_ble_eq_true rfl|exact (rfl:(_:Bool)=true)|(intro _ _;with_reducible apply al_id)|(intro _;with_reducible apply al_id))
   rename_i bs bg cg
   refine ⟨(1,some (bg,cg)),⟨by omega,by omega⟩,by simp only;omega,?_,?_⟩
   · simp only [GFr,List.cons_append,List.nil_append]
     (repeat first|exact FrSub.nil|(apply FrSub.cons;exact rfl))
   · simp only [GHp,List.cons_append,List.nil_append]
     (repeat (first|exact HpSub.refl _|(apply HpSub.consE;(repeat first|exact P0|apply P1);first|exact rfl|((rw [tabG_snoc hx];rfl)))|exact HpSub.nil))
 · obtain ⟨h0,hk⟩:0<k∧k≤n:=hi
   simp only [GFr,GHp,List.cons_append,List.nil_append]
   by_cases hlt:k<n
   · obtain ⟨b,o,x,rfl,_,hx,c0,c1,c2,c3,c4,c5⟩:=gl_read hr hlt
     have hC:=tabG_len (e:=e) hl (Nat.le_of_lt hlt)
     repeat' (first|((with_reducible apply oq_id);first|(focus ((with_reducible apply oq_indexAddrN);(iterate 4 exact rfl);omega))|(apply oq_fn;exact rfl;first|exact trivial|(and_intros<;>omega)|omega|skip)|((with_reducible apply oq_load);exact rfl;exact rfl)|((with_reducible apply oq_loadAgg);exact rfl;exact rfl)|((with_reducible apply oq_call (k:=f) (hc:=hc));exact rfl;exact rfl;exact fun D w1 hw1=>hf x w1)|((with_reducible apply oq_build);(iterate 3 exact rfl)))|((with_reducible apply tl_id);first|(with_reducible apply tl_nil)|((with_reducible apply u_q);(iterate 4 exact rfl))|((with_reducible apply u_s0);exact rfl;exact rfl)|((with_reducible apply u_s);(iterate 3 exact rfl)))|((with_reducible apply gx_id);first|(with_reducible apply v_nil)|((with_reducible apply v_q);(iterate 3 exact rfl)))|((with_reducible apply os_id);first|((with_reducible apply os_x);exact rfl)|((with_reducible apply os_storeAgg);(iterate 5 exact rfl))|((with_reducible apply os_append (hk:=app_ok209));exact rfl;exact rfl;(repeat first|exact P0|apply P1)))|((with_reducible apply ox_id);first|((with_reducible apply ox_alloc);exact rfl;intro _)|((with_reducible apply ox_buildSlice);(iterate 4 exact rfl)))|((with_reducible apply ai_id);first|((with_reducible apply ai_q);(iterate 5 exact rfl))|((with_reducible apply ai_x);(iterate 5 exact rfl))|((with_reducible apply ai_s);(iterate 5 exact rfl)))|((with_reducible apply rd_id);first|(apply Rd.own;(repeat first|exact P0|apply P1);exact rfl;done)|(apply Rd.old;(first|(with_reducible assumption)|exact c0|exact c1|exact c2|exact c3|exact c4|exact c5);first|exact List.not_mem_nil))|((with_reducible apply t_id);first|(with_reducible apply t_seq)|(apply t_region;kernel_rfl)|((with_reducible apply t_condD);exact rfl;all_goals first|(intro hp;try (exfalso;omega))|skip)|(with_reducible apply t_skip)|(with_reducible apply t_block))|with_reducible apply q_thenN|with_reducible apply q_blockN|exact P0|exact Rdn.zero|apply Rdn.succ|((with_reducible apply Norm.nil);exact rfl)|((with_reducible apply Norm.cons);exact rfl)|(apply t_mix (id:=5) [0,1,2,3,4,5,6,7] 3 #[false,false,false,false,false,false,false,false,false,true,false];kernel_rfl;kernel_rfl;exact rfl)|((with_reducible apply al_id);first|(apply al_done;decide +kernel)|(apply al_one 8;decide +kernel)|(apply al_one 9;decide +kernel)|(apply al_one 10;decide +kernel))|exact hC|exact Nat.le_of_ble_eq_true rfl|exact (rfl:(_:Bool)=true)|omega|(intro _ _;with_reducible apply al_id)|(intro _;with_reducible apply al_id))
     rename_i bs bg cg
     refine ⟨(k+1,some (bg,cg)),⟨by omega,by omega⟩,by simp only;omega,?_,?_⟩
     · simp only [GFr,List.cons_append,List.nil_append]
       (repeat first|exact FrSub.nil|(apply FrSub.cons;exact rfl))
     · simp only [GHp,List.cons_append,List.nil_append]
       (repeat (first|exact HpSub.refl _|(apply HpSub.consE;(repeat first|exact P0|apply P1);first|exact rfl|((rw [tabG_snoc hx])))|exact HpSub.nil))
   · obtain rfl:k=n:=by omega
     have ht:l.take k=l:=List.take_of_length_le (by omega)
     rw [ht]
     have hx:l[0]?=some l[0]:=List.getElem?_eq_getElem (by omega)
     have hy:l[k-1]?=some l[k-1]:=List.getElem?_eq_getElem (by omega)
     generalize l[0]=x at hx
     generalize l[k-1]=y at hy
     have hxy:=hW.mono hx hy (by omega)
     obtain ⟨t0,t1,t2⟩:=tabG_cell (e:=e) hx
     obtain ⟨u0,u1,u2⟩:=tabG_cell (e:=e) hy
     have ef:hAt l 0=x.h:=by unfold hAt;rw [hx]
     have el:hAt l (l.length-1)=y.h:=by unfold hAt;rw [hl,hy]
     have r85:=tabG_len (e:=e) hl (Nat.le_refl k)
     rw [ht] at r85
     by_cases h1:k=1
     · subst h1
       obtain rfl:x=y:=by rw [hx] at hy;exact Option.some.inj hy
       have hv:steadyV e l p q=partG e x:=by unfold steadyV;rw [if_pos hl,hx]
       rw [hv]
       repeat' (first|((with_reducible apply oq_id);first|((with_reducible apply oq_eq211);exact rfl;exact rfl)|(focus ((with_reducible apply oq_indexAddrN);(iterate 4 exact rfl);omega))|(apply oq_fn;exact rfl;first|exact trivial|(and_intros<;>omega)|omega|skip)|((with_reducible apply oq_loadAgg);exact rfl;exact rfl))|((with_reducible apply tl_id);first|(with_reducible apply tl_nil)|((with_reducible apply u_q);(iterate 4 exact rfl))|((with_reducible apply u_s0);exact rfl;exact rfl))|((with_reducible apply gx_id);first|(with_reducible apply v_nil)|((with_reducible apply v_q);(iterate 3 exact rfl)))|((with_reducible apply os_id);first|((with_reducible apply os_storeAgg);(iterate 5 exact rfl)))|((with_reducible apply ox_id);first|((with_reducible apply ox_alloc);exact rfl;intro _))|((with_reducible apply ai_id);first|((with_reducible apply ai_x);(iterate 5 exact rfl))|((with_reducible apply ai_n0);(iterate 3 exact rfl)))|((with_reducible apply al_keep);focus (repeat first|exact HpSub.refl _|(apply HpSub.cons;(repeat first|exact P0|apply P1))|exact HpSub.nil))|((with_reducible apply rd_id);first|(apply Rd.own;(repeat first|exact P0|apply P1);(first|exact t0|exact t1|exact t2|exact u0|exact u1|exact u2);done)|(apply Rd.own;(repeat first|exact P0|apply P1);exact rfl;done))|((with_reducible apply t_id);first|(with_reducible apply t_seq)|(apply t_region;kernel_rfl)|((with_reducible apply t_condF);exact rfl)|((with_reducible apply t_condD);exact rfl;all_goals first|(intro hp;try (exfalso;omega))|skip)|(with_reducible apply t_ret)|(with_reducible apply t_exit))|with_reducible apply q_thenN|with_reducible apply q_thenR|with_reducible apply q_thenE|((with_reducible apply q_blockE);exact rfl)|exact P0|(with_reducible apply P1)|exact Rdn.zero|apply Rdn.succ|((with_reducible apply Norm.nil);exact rfl)|((with_reducible apply Norm.cons);exact rfl)|(with_reducible apply end_ret)|exact rvs_nil|(with_reducible apply rvs_cons)|((with_reducible apply rv_cellAgg);exact rfl;exact rfl)|(apply t_mix (id:=7) [0,1,2,3,4,5,6,7,8] 4 #[false,false,false,false,false,false,false,false,false,false,false,false,false];kernel_rfl;kernel_rfl;exact rfl)|((with_reducible apply al_id);first|(apply al_done;decide +kernel)|(apply al_one 9;decide +kernel)|(apply al_one 10;decide +kernel)|(apply al_one 11;decide +kernel)|(apply al_one 12;decide +kernel)|(apply al_two 9 10;decide +kernel))|exact Nat.le_of_ble_eq_true rfl)
       all_goals first|rfl|simp_all
     · have hv:steadyV e l p q=valV (tabG e l) (min (max p x.h) y.h) (min (max q x.h) y.h):=by unfold steadyV clampG;rw [if_neg (by omega),ef,el]
       have hlt2:=hxy.2 (by omega)
       rw [hv]
       repeat' (first|((with_reducible apply oq_id);first|((with_reducible apply oq_eq211);exact rfl;exact rfl)|((with_reducible apply oq_subE (k:=((k-1:Nat):Int)));exact rfl;exact rfl;omega)|(focus ((with_reducible apply oq_indexAddrN);(iterate 4 exact rfl);omega))|(apply oq_fn;exact rfl;first|exact trivial|(and_intros<;>omega)|omega|skip)|((with_reducible apply oq_load);exact rfl;exact rfl)|((with_reducible apply oq_loadAgg);exact rfl;exact rfl)|((with_reducible apply oq_call (hc:=Try.call125));exact rfl;exact rfl;exact fun D w1 hw1=>clamp1 hw1 (by (repeat first|exact P0|apply P1)) (by (repeat first|exact P0|apply P1)))|((with_reducible apply oq_call (hc:=Try.call126));exact rfl;exact rfl;exact fun D w1 hw1=>value_calls _ _ _ (tabG e l) _ _ w1 (tabG_rows hl hw1 (by (repeat first|exact P0|apply P1))) (hW.tab (by omega)) (tabG_fst hx (by omega)) (by omega) (tabG_lst hy (by omega)))|((with_reducible apply oq_build);(iterate 3 exact rfl)))|((with_reducible apply tl_id);first|(with_reducible apply tl_nil)|((with_reducible apply u_q);(iterate 4 exact rfl))|((with_reducible apply u_s0);exact rfl;exact rfl))|((with_reducible apply gx_id);first|(with_reducible apply v_nil)|((with_reducible apply v_q);(iterate 3 exact rfl)))|((with_reducible apply os_id);first|((with_reducible apply os_storeAgg);(iterate 5 exact rfl)))|((with_reducible apply ox_id);first|((with_reducible apply ox_alloc);exact rfl;intro _))|((with_reducible apply ai_id);first|((with_reducible apply ai_q);(iterate 5 exact rfl))|((with_reducible apply ai_x);(iterate 5 exact rfl))|((with_reducible apply ai_n0);(iterate 3 exact rfl)))|((with_reducible apply al_keep);focus (repeat first|exact HpSub.refl _|(apply HpSub.cons;(repeat first|exact P0|apply P1))|exact HpSub.nil))|((with_reducible apply rd_id);first|(apply Rd.own;(repeat first|exact P0|apply P1);(first|exact t0|exact t1|exact t2|exact u0|exact u1|exact u2);done)|(apply Rd.own;(repeat first|exact P0|apply P1);exact rfl;done))|((with_reducible apply t_id);first|(with_reducible apply t_seq)|(apply t_region;kernel_rfl)|((with_reducible apply t_condD);exact rfl;all_goals first|(intro hp;try (exfalso;omega))|skip)|(with_reducible apply t_ret)|(with_reducible apply t_skip)|(with_reducible apply t_exit))|with_reducible apply q_thenN|with_reducible apply q_thenE|((with_reducible apply q_blockE);exact rfl)|exact P0|(with_reducible apply P1)|exact Rdn.zero|apply Rdn.succ|((with_reducible apply Norm.nil);exact rfl)|((with_reducible apply Norm.cons);exact rfl)|(with_reducible apply end_ret)|exact rvs_nil|(with_reducible apply rvs_cons)|((with_reducible apply rv_cellAgg);exact rfl;exact rfl)|(apply t_mix (id:=7) [0,1,2,3,4,5,6,7,8] 4 #[false,false,false,false,false,false,false,false,false,false,false,false,false];kernel_rfl;kernel_rfl;exact rfl)|((with_reducible apply al_id);first|(apply al_done;decide +kernel)|(apply al_one 9;decide +kernel)|(apply al_one 10;decide +kernel)|(apply al_one 11;decide +kernel)|(apply al_one 12;decide +kernel)|(apply al_two 9 10;decide +kernel))|(apply t_mix (id:=11) [0,1,2,3,4,5,6,7,8,9,10,11,12,13] 3 #[false,false,false,false,false,false,false,false,false,false,false,false,false,false,false,false,false];kernel_rfl;kernel_rfl;exact rfl)|((with_reducible apply al_id);first|(apply al_one 14;decide +kernel)|(apply al_one 15;decide +kernel)|(apply al_one 16;decide +kernel))|exact Nat.le_of_ble_eq_true rfl)
       all_goals first|rfl|simp_all
theorem wide_calls (b:Nat) (g p q:Int) (hp : -3000000000000≤p∧p≤3000000000000) (hq : -3000000000000≤q∧q≤3000000000000) (hg:0≤g∧g≤500) (w:World) (m0:w.cell? ⟨b,0,none⟩=some (.int .i64 g)) :
   Calls Try.prog 69 #[.agg #[.int .i64 p,.int .i64 q],.pointer (some ⟨b,0,none⟩)] w fun u w'=>u=.returned (.agg #[.int .i64 (p-g),.int .i64 (q+g)])∧Ext w w':=by
 refine enterQ (c:=cx w 13) Try.func69 rfl rfl rfl rfl ?_
 repeat' (first|((with_reducible apply oq_id);first|(apply oq_fn;exact rfl;first|exact trivial|(and_intros<;>omega)|omega|skip)|((with_reducible apply oq_load);exact rfl;exact rfl)|((with_reducible apply oq_build);(iterate 3 exact rfl)))|((with_reducible apply tl_id);first|(with_reducible apply tl_nil)|((with_reducible apply u_q);(iterate 4 exact rfl))|((with_reducible apply u_s0);exact rfl;exact rfl)|((with_reducible apply u_s);(iterate 3 exact rfl)))|((with_reducible apply os_id);first|((with_reducible apply os_x);exact rfl)|((with_reducible apply os_storeAgg);(iterate 5 exact rfl)))|((with_reducible apply ox_id);first|((with_reducible apply ox_alloc);exact rfl;intro _)|((with_reducible apply ox_boxAgg);exact rfl;intro _))|((with_reducible apply rd_id);first|(apply Rd.old;exact m0;exact List.not_mem_nil)|(apply Rd.own;(repeat first|exact P0|apply P1);exact rfl;done))|((with_reducible apply t_id);first|(with_reducible apply t_seq)|(apply t_region;kernel_rfl)|(with_reducible apply t_ret))|with_reducible apply q_thenN|exact P0|exact Rdn.zero|apply Rdn.succ|((with_reducible apply Norm.nil);exact rfl)|((with_reducible apply Norm.cons);exact rfl)|(with_reducible apply end_ret)|exact rvs_nil|(with_reducible apply rvs_cons)|((with_reducible apply rv_cellAgg);exact rfl;exact rfl)|exact Nat.le_of_ble_eq_true rfl)
 all_goals rfl
theorem wide1 {w0:World} {M:Ms} {H H1:Hp} {w1:World} {b:Nat} {g p q:Int} {tg:Tg} (hp : -3000000000000≤p∧p≤3000000000000) (hq : -3000000000000≤q∧q≤3000000000000) (hg:0≤g∧g≤500) (hw:Has w0 M H w1) (p1:Pick H b [.int .i64 g] tg H1) :
   Calls Try.prog 69 #[.agg #[.int .i64 p,.int .i64 q],.pointer (some ⟨b,0,none⟩)] w1 fun u w'=>u=.returned (.agg #[.int .i64 (p-g),.int .i64 (q+g)])∧Ext w1 w':=
 wide_calls b g p q hp hq hg w1 (hw.cellAt p1 rfl)
def widen (g:Int) (s:Int×Int):Int×Int:=(s.1-g,s.2+g)
def windV (l:List Gl) (p q:Int):(Int×Int)×(Int×Int)×Int:=
 if windB l then (if fineS (p,q) then (widen (gustV l p q) (steadyV true l p q),widen (gustV l p q) (steadyV false l p q),0) else ((0,0),(0,0),10)) else ((0,0),(0,0),22)
def windO (v:(Int×Int)×(Int×Int)×Int):Value:=.tuple #[.agg #[.int .i64 v.1.1,.int .i64 v.1.2,.int .i64 v.2.1.1,.int .i64 v.2.1.2],.int .i64 v.2.2]
def Big (s:Int×Int):Prop:=-3000000000000≤s.1∧s.1≤3000000000000∧-3000000000000≤s.2∧s.2≤3000000000000
theorem atV_big:∀ {t:List Kn},Incr t→(∀ k∈t,-100000≤k.x∧k.x≤100000∧-100000≤k.lo∧k.lo≤k.hi∧k.hi≤100000)→∀ {x:Int},-100000≤x∧x≤100000→Big (atV t x)
 | [],_,_,x,hx=>by unfold atV Big;simp
 | [a],_,_,x,hx=>by unfold atV Big;simp
 | a::b::r,.cons h k,hk,x,hx=>by
   unfold atV
   split
   · have ha:=hk a (by simp)
     have hb:=hk b (by simp)
     have:=line_bounds ha hb h hx
     unfold Big lineV
     simp only
     omega
   · exact atV_big k (fun y hy=>hk y (List.mem_cons_of_mem _ hy)) hx
theorem valV_big {t:List Kn} (ht:TabOk t) {p q:Int} (hp : -100000≤p∧p≤100000) (hq : -100000≤q∧q≤100000):Big (valV t p q):=by
 have h1:=atV_big ht.inc ht.ok hp
 have h2:=atV_big ht.inc ht.ok hq
 have h3:SIn (valV t p q) (-3000000000000,3000000000000):=by
   unfold valV
   refine hullA_least (hullS_least ?_ ?_) ?_
   · exact ⟨h1.1,h1.2.2.2⟩
   · exact ⟨h2.1,h2.2.2.2⟩
   · intro y hy
     obtain ⟨k,hk,rfl⟩:=List.mem_map.1 hy
     have:=ht.ok k ((List.mem_filter.1 hk).1)
     exact ⟨by show _≤k.lo;simp only;omega,by show k.hi≤_;simp only;omega⟩
 have h4:SIn (hullS (atV t p) (atV t q)) (valV t p q):=hullA_mono
 have h5:=(hullS_left (atV t p) (atV t q)).trans h4
 obtain ⟨a1,a2⟩:=h3
 obtain ⟨b1,b2⟩:=h5
 obtain ⟨c1,c2,c3,c4⟩:=h1
 simp only at a1 a2
 exact ⟨by omega,by omega,by omega,by omega⟩
theorem steady_big {e:Bool} {l:List Gl} {p q:Int} (hW:Wnd l):Big (steadyV e l p q):=by
 have hn:=hW.n1
 have hx:l[0]?=some l[0]:=List.getElem?_eq_getElem (by omega)
 have hy:l[l.length-1]?=some l[l.length-1]:=List.getElem?_eq_getElem (by omega)
 have b1:=hW.ok _ (List.mem_of_getElem? hx)
 have b2:=hW.ok _ (List.mem_of_getElem? hy)
 unfold steadyV
 split
 · rw [hx]
   unfold Big
   cases e<;>simp only [partG]<;>omega
 · have ef:hAt l 0=l[0].h:=by unfold hAt;rw [hx]
   have el:hAt l (l.length-1)=l[l.length-1].h:=by unfold hAt;rw [hy]
   refine valV_big (hW.tab (by omega)) ?_ ?_<;>(unfold clampG;rw [ef,el];omega)
end Go.Proofs.Ytcjkndjjbjoehaa
namespace Go.Proofs.Ytcjkndjjbjoehaa
theorem lin_mid {d u m v q:Int} (hq:0<q) (h1:u≤m) (h2:m≤v):min (u*d / q) (v*d / q)≤m*d / q∧m*d / q≤max (u*d / q) (v*d / q):=by
 rcases Int.le_total 0 d with h|h
 · have a:=ediv_mono hq (Int.mul_le_mul_of_nonneg_right h1 h)
   have b:=ediv_mono hq (Int.mul_le_mul_of_nonneg_right h2 h)
   omega
 · have a:=ediv_mono hq (Int.mul_le_mul_of_nonpos_right h1 h)
   have b:=ediv_mono hq (Int.mul_le_mul_of_nonpos_right h2 h)
   omega
theorem lineV_mid {a b:Kn} {u m v:Int} (hab:a.x<b.x) (h1:u≤m) (h2:m≤v):SIn (lineV a b m) (hullS (lineV a b u) (lineV a b v)):=by
 have k1:=lin_mid (d:=b.lo-a.lo) (u:=u-a.x) (m:=m-a.x) (v:=v-a.x) (q:=b.x-a.x) (by omega) (by omega) (by omega)
 have k2:=lin_mid (d:=a.hi-b.hi) (u:=u-a.x) (m:=m-a.x) (v:=v-a.x) (q:=b.x-a.x) (by omega) (by omega) (by omega)
 unfold SIn hullS lineV
 simp only
 omega
theorem hullS_self (a:Int×Int):hullS a a=a:=by unfold hullS;simp
theorem valV_left (t:List Kn) (p q:Int):SIn (atV t p) (valV t p q):=(hullS_left _ _).trans hullA_mono
theorem valV_right (t:List Kn) (p q:Int):SIn (atV t q) (valV t p q):=(hullS_right _ _).trans hullA_mono
theorem valV_knot {t:List Kn} {p q:Int} {k:Kn} (hk:k∈t) (h1:p<k.x) (h2:k.x<q):SIn k.val (valV t p q):=
 hullA_mem (List.mem_map.2 ⟨k,List.mem_filter.2 ⟨hk,by unfold kIn;simp [h1,h2]⟩,rfl⟩)
theorem valV_self (t:List Kn) (h:Int):valV t h h=atV t h:=by
 have:t.filter (kIn h h)=[]:=by
   rw [List.filter_eq_nil_iff]
   intro k _ hk
   unfold kIn at hk
   simp at hk
   omega
 unfold valV
 rw [this,hullS_self]
 rfl
theorem seg_of:∀ {t:List Kn},Incr t→2≤t.length→∀ {m:Int},(∀ k,t[0]?=some k→k.x≤m)→(∀ k,t[t.length-1]?=some k→m≤k.x)→∃ (i:Nat) (a b:Kn),t[i]?=some a∧t[i+1]?=some b∧a.x≤m∧m≤b.x
 | [],_,h,_,_,_=>by simp at h
 | [_],_,h,_,_,_=>by simp at h
 | [a,b],_,_,m,h0,h1=>⟨0,a,b,rfl,rfl,h0 a rfl,h1 b rfl⟩
 | a::b::c::r,hi,_,m,h0,h1=>by
   rcases Int.le_total m b.x with h|h
   · exact ⟨0,a,b,rfl,rfl,h0 a rfl,h⟩
   · cases hi with
     | cons hab hk=>
       obtain ⟨i,u,v,e1,e2,e3,e4⟩:=seg_of hk (by simp) (m:=m) (fun k e=>by simp at e;subst e;exact h) (fun k e=>h1 k (by simpa using e))
       exact ⟨i+1,u,v,by simpa using e1,by simpa using e2,e3,e4⟩
theorem valV_mid {t:List Kn} (ht:TabOk t) {p m q:Int} (h1:p≤m) (h2:m≤q) (h0:∀ k,t[0]?=some k→k.x≤p) (hl:∀ k,t[t.length-1]?=some k→q≤k.x):SIn (atV t m) (valV t p q):=by
 obtain ⟨i,a,b,ha,hb,k1,k2⟩:=seg_of ht.inc ht.l2 (m:=m) (fun k e=>Int.le_trans (h0 k e) h1) (fun k e=>Int.le_trans h2 (hl k e))
 have hab:=ht.inc.at_ (Nat.lt_succ_self i) ha hb
 have e:∀ x,a.x≤x→x≤b.x→atV t x=lineV a b x:=fun x j1 j2=>atV_seg ht.inc ha hb (.inr j1) (.inr j2)
 rw [e m k1 k2]
 have hu:∃ u,u≤m∧a.x≤u∧u≤b.x∧SIn (lineV a b u) (valV t p q):=by
   rcases Int.lt_or_le p a.x with h|h
   · refine ⟨a.x,k1,Int.le_refl _,by omega,?_⟩
     rw [lineV_start]
     rcases Int.lt_or_le a.x q with g|g
     · exact valV_knot (List.mem_of_getElem? ha) h g
     · have eq:q=a.x:=by omega
       have:=valV_right t p q
       rw [eq,e a.x (Int.le_refl _) (by omega),lineV_start] at this
       rw [eq]
       exact this
   · refine ⟨p,h1,h,by omega,?_⟩
     rw [← e p h (by omega)]
     exact valV_left t p q
 have hv:∃ v,m≤v∧a.x≤v∧v≤b.x∧SIn (lineV a b v) (valV t p q):=by
   rcases Int.lt_or_le b.x q with h|h
   · refine ⟨b.x,k2,by omega,Int.le_refl _,?_⟩
     rw [lineV_end hab]
     rcases Int.lt_or_le p b.x with g|g
     · exact valV_knot (List.mem_of_getElem? hb) g h
     · have eq:p=b.x:=by omega
       have:=valV_left t p q
       rw [eq,e b.x (by omega) (Int.le_refl _),lineV_end hab] at this
       rw [eq]
       exact this
   · refine ⟨q,h2,by omega,h,?_⟩
     rw [← e q (by omega) h]
     exact valV_right t p q
 obtain ⟨u,u1,_,_,u2⟩:=hu
 obtain ⟨v,v1,_,_,v2⟩:=hv
 exact (lineV_mid hab u1 v1).trans (hullS_least u2 v2)
theorem Wnd.gusts {l:List Gl} (h:Wnd l):∀ x∈l,0≤x.gust∧x.gust≤500:=fun x hx=>⟨(h.ok x hx).2.2.1,(h.ok x hx).2.2.2.1⟩
theorem tabG_size (e:Bool) (l:List Gl):(tabG e l).length=l.length:=by unfold tabG;simp
theorem hAt_eq {l:List Gl} {i:Nat} {x:Gl} (h:l[i]?=some x):hAt l i=x.h:=by unfold hAt;rw [h]
theorem hAt_mono {l:List Gl} (h:Wnd l) {i j:Nat} (hij:i≤j) (hj:j<l.length):hAt l i≤hAt l j:=by
 have h1:l[i]?=some l[i]:=List.getElem?_eq_getElem (by omega)
 have h2:l[j]?=some l[j]:=List.getElem?_eq_getElem hj
 rw [hAt_eq h1,hAt_eq h2]
 exact (h.mono h1 h2 hij).1
theorem steady_wide {e:Bool} {l:List Gl} {p q m:Int} (h:Wnd l) (h1:p≤m) (h2:m≤q):SIn (steadyV e l m m) (steadyV e l p q):=by
 unfold steadyV
 by_cases h3:l.length=1
 · rw [if_pos h3,if_pos h3];exact SIn.refl _
 · rw [if_neg h3,if_neg h3,valV_self]
   have n1:=h.n1
   have ho:=hAt_mono h (Nat.zero_le (l.length-1)) (by omega)
   refine valV_mid (h.tab (by omega)) (by unfold clampG;omega) (by unfold clampG;omega) (fun k hk=>?_) (fun k hk=>?_)
   · obtain ⟨x,hx,rfl⟩:=tabG_at hk
     have:=hAt_eq hx
     show x.h≤_
     unfold clampG
     omega
   · rw [tabG_size] at hk
     obtain ⟨x,hx,rfl⟩:=tabG_at hk
     have:=hAt_eq hx
     show _≤x.h
     unfold clampG
     omega
theorem line_pick {a b:Kn} {p u v:Int} (h1:a.x≤p) (h2:p≤b.x) (hab:a.x<b.x) (ha:a.lo≤u∧u≤a.hi) (hb:b.lo≤v∧v≤b.hi) :
   (lineV a b p).1*(b.x-a.x)≤u*(b.x-a.x-(p-a.x))+v*(p-a.x)∧u*(b.x-a.x-(p-a.x))+v*(p-a.x)≤(lineV a b p).2*(b.x-a.x):=by
 unfold lineV
 simp only
 obtain ⟨d,hd⟩:∃ d,d=b.x-a.x:=⟨_,rfl⟩
 obtain ⟨t,ht⟩:∃ t,t=p-a.x:=⟨_,rfl⟩
 rw [← hd,← ht]
 have k1:t*(b.lo-a.lo) / d*d≤t*(b.lo-a.lo):=Int.ediv_mul_le _ (by omega)
 have k2:t*(a.hi-b.hi) / d*d≤t*(a.hi-b.hi):=Int.ediv_mul_le _ (by omega)
 have p1:t*(b.lo-a.lo)=b.lo*t-a.lo*t:=by rw [Int.mul_comm,Int.sub_mul]
 have p2:t*(a.hi-b.hi)=a.hi*t-b.hi*t:=by rw [Int.mul_comm,Int.sub_mul]
 generalize t*(b.lo-a.lo) / d=Q1 at *
 generalize t*(a.hi-b.hi) / d=Q2 at *
 rw [p1] at k1
 rw [p2] at k2
 have m1:=Int.mul_le_mul_of_nonneg_right ha.1 (show 0≤d-t by omega)
 have m2:=Int.mul_le_mul_of_nonneg_right ha.2 (show 0≤d-t by omega)
 have m3:=Int.mul_le_mul_of_nonneg_right hb.1 (show 0≤t by omega)
 have m4:=Int.mul_le_mul_of_nonneg_right hb.2 (show 0≤t by omega)
 rw [Int.mul_sub,Int.mul_sub] at m1 m2
 rw [Int.add_mul,Int.sub_mul,Int.mul_sub]
 constructor<;>omega
theorem knG_in {e:Bool} {l:List Gl} (h:Wnd l) {k:Kn} (hk:k∈tabG e l):SIn k.val (-1000,1000):=by
 unfold tabG at hk
 obtain ⟨x,hx,rfl⟩:=List.mem_map.1 hk
 have:=h.ok x hx
 unfold Kn.val knG partG SIn
 cases e<;>simp only<;>omega
theorem steady_in {e:Bool} {l:List Gl} {p q:Int} (h:Wnd l):SIn (steadyV e l p q) (-1000,1000):=by
 have n1:=h.n1
 unfold steadyV
 by_cases h3:l.length=1
 · rw [if_pos h3]
   have hx:l[0]?=some l[0]:=List.getElem?_eq_getElem (by omega)
   rw [hx]
   have:=h.ok _ (List.mem_of_getElem? hx)
   unfold partG SIn
   cases e<;>simp only<;>omega
 · rw [if_neg h3]
   have ht:=h.tab (e:=e) (by omega)
   have ho:=hAt_mono h (Nat.zero_le (l.length-1)) (by omega)
   have at_in:∀ m,SIn (atV (tabG e l) (clampG l m)) (-1000,1000):=fun m=>by
     obtain ⟨i,a,b,ha,hb,k1,k2⟩:=seg_of ht.inc ht.l2 (m:=clampG l m) (fun k hk=>by
       obtain ⟨x,hx,rfl⟩:=tabG_at hk
       have:=hAt_eq hx
       show x.h≤_
       unfold clampG
       omega) (fun k hk=>by
       rw [tabG_size] at hk
       obtain ⟨x,hx,rfl⟩:=tabG_at hk
       have:=hAt_eq hx
       show _≤x.h
       unfold clampG
       omega)
     have hab:=ht.inc.at_ (Nat.lt_succ_self i) ha hb
     rw [atV_seg ht.inc ha hb (.inr k1) (.inr k2)]
     have:=lineV_mid (u:=a.x) (v:=b.x) hab k1 k2
     rw [lineV_start,lineV_end hab] at this
     exact this.trans (hullS_least (knG_in h (List.mem_of_getElem? ha)) (knG_in h (List.mem_of_getElem? hb)))
   unfold valV
   refine hullA_least (hullS_least (at_in p) (at_in q)) fun y hy=>?_
   obtain ⟨k,hk,rfl⟩:=List.mem_map.1 hy
   exact knG_in h (List.mem_filter.1 hk).1
theorem line_le {a b:Kn} {p:Int} (h1:a.x≤p) (h2:p≤b.x) (hab:a.x<b.x) (ha:a.lo≤a.hi) (hb:b.lo≤b.hi):(lineV a b p).1≤(lineV a b p).2:=by
 obtain ⟨k1,k2⟩:=line_pick h1 h2 hab ⟨Int.le_refl _,ha⟩ ⟨Int.le_refl _,hb⟩
 exact Int.le_of_mul_le_mul_right (Int.le_trans k1 k2) (by omega)
theorem steady_le {e:Bool} {l:List Gl} {p:Int} (h:Wnd l):(steadyV e l p p).1≤(steadyV e l p p).2:=by
 have n1:=h.n1
 unfold steadyV
 by_cases h3:l.length=1
 · rw [if_pos h3]
   have hx:l[0]?=some l[0]:=List.getElem?_eq_getElem (by omega)
   rw [hx]
   have:=h.ok _ (List.mem_of_getElem? hx)
   unfold partG
   cases e<;>simp only<;>omega
 · rw [if_neg h3,valV_self]
   have ht:=h.tab (e:=e) (by omega)
   have ho:=hAt_mono h (Nat.zero_le (l.length-1)) (by omega)
   obtain ⟨i,a,b,ha,hb,k1,k2⟩:=seg_of ht.inc ht.l2 (m:=clampG l p) (fun k hk=>by
     obtain ⟨x,hx,rfl⟩:=tabG_at hk
     have:=hAt_eq hx
     show x.h≤_
     unfold clampG
     omega) (fun k hk=>by
     rw [tabG_size] at hk
     obtain ⟨x,hx,rfl⟩:=tabG_at hk
     have:=hAt_eq hx
     show _≤x.h
     unfold clampG
     omega)
   rw [atV_seg ht.inc ha hb (.inr k1) (.inr k2)]
   exact line_le k1 k2 (ht.inc.at_ (Nat.lt_succ_self i) ha hb) (ht.ok a (List.mem_of_getElem? ha)).2.2.2.1 (ht.ok b (List.mem_of_getElem? hb)).2.2.2.1
theorem steady_ok {e:Bool} {l:List Gl} {p q:Int} (h:Wnd l) (hpq:p≤q):(steadyV e l p q).1≤(steadyV e l p q).2∧-1000≤(steadyV e l p q).1∧(steadyV e l p q).2≤1000:=by
 have h1:=steady_wide (e:=e) h (Int.le_refl p) hpq
 have h2:=steady_le (e:=e) (p:=p) h
 have h3:=steady_in (e:=e) (p:=p) (q:=q) h
 unfold SIn at h1 h3
 simp only at h3
 omega
theorem windV_ok {l:List Gl} {p q:Int} (hb:windB l=true) (hf:fineS (p,q)=true):∃ a b c d,windV l p q=((a,b),(c,d),0)∧a≤b∧c≤d∧-2000≤a∧b≤2000∧-2000≤c∧d≤2000:=by
 have h:=(windB_iff l).1 hb
 have hpq:p≤q:=((fineS_iff _).1 hf).1
 have hg:0≤gustV l p q∧gustV l p q≤500:=gustR_bounds (p:=p) (q:=q) h.gusts l.length
 have h1:=steady_ok (e:=true) h hpq
 have h2:=steady_ok (e:=false) h hpq
 unfold windV
 rw [if_pos hb,if_pos hf]
 refine ⟨_,_,_,_,rfl,?_⟩
 omega
theorem WOk.windE {a b c d:Int} (h:WOk a b c d):windE a b c d=0:=by
 obtain ⟨h1,h2,h3,h4,h5,h6⟩:=h
 have f1:fineS (a,b)=true:=(fineS_iff _).2 ⟨h1,by show _≤a;omega,by show b≤_;omega⟩
 have f2:fineS (c,d)=true:=(fineS_iff _).2 ⟨h2,by show _≤c;omega,by show d≤_;omega⟩
 have h8:allFrom (-2000) 2000 [a,b,c,d]=true:=by simp [allFrom];omega
 unfold Ytcjkndjjbjoehaa.windE
 rw [f1,f2,h8];rfl
theorem sq_bound {s m:Int} (h0:0≤s) (hm:0≤m) (h:s*s<(m+1)*(m+1)):s≤m:=by
 rcases Int.lt_or_le m s with g|g
 · have:=sq_mono (show 0≤m+1 by omega) (show m+1≤s by omega)
   omega
 · exact g
structure See (a b c d x y p q s t al ah cl ch dl dh:Int):Prop where
 speed:speedV x x y y=(s,t,0)
 along:alongV x x y y p q=(al,ah,0)
 cl_eq:mrV (nearC x x y y p q*nearC x x y y p q) (p*p+q*q)=cl
 ch_eq:mhV (farC x x y y p q*farC x x y y p q) (p*p+q*q)=ch
 dl_eq:mrV (nearC a b c d p q*nearC a b c d p q) (p*p+q*q)=dl
 dh_eq:mhV (farC a b c d p q*farC a b c d p q) (p*p+q*q)=dh
 s0 : -4001≤s∧s≤4001
 t0 : -4001≤t∧t≤4001
 al0 : -4001≤al∧al≤4001
 ah0 : -4001≤ah∧ah≤4001
 cl0 : -4001≤cl∧cl≤4001
 ch0 : -4001≤ch∧ch≤4001
 low:dl≤cl
 high:ch≤dh
 most:s*s≤mostV al ah*mostV al ah+ch*ch
 least:leastV al ah*leastV al ah+cl*cl≤t*t
 calm:farC x x y y p q*farC x x y y p q≤farC a b c d p q*farC a b c d p q
end Go.Proofs.Ytcjkndjjbjoehaa
