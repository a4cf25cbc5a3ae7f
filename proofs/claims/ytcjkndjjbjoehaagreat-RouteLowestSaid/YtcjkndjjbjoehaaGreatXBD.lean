/- A part of the proof: rules for walks, and contracts of functions (4). -/
import Derived.Test.YtcjkndjjbjoehaaGreatXBA
import Derived.Test.YtcjkndjjbjoehaaGreatXBC
import Derived.Test.YtcjkndjjbjoehaaGreatXBB
set_option linter.unusedVariables false
set_option linter.unusedSimpArgs false
set_option maxRecDepth 100000
set_option maxHeartbeats 2000000
namespace Go.Proofs.YtcjkndjjbjoehaaGreat
theorem gqD0 {G A1 A2 A3 A4 A5 A6 A7 A8 A9 A10 A11 A12 A13 A14 A15 A16:Prop} (p:GoP A1 A2 A3 A4 A5 A6 A7 A8 A9 A10 A11 A12 A13 A14 A15 A16) (h:GoL A1→GoL A2→GoL A3→GoL A4→GoL A5→GoL A6→GoL A7→GoL A8→GoL A9→GoL A10→GoL A11→GoL A12→GoL A13→GoL A14→GoL A15→GoL A16→GoM→G:=by intro m1 m2 m3 m4 m5 m6 m7 m8 m9 m10 m11 m12 m13 m14 m15 m16 _;(repeat' (first|((with_reducible apply oq_id);first|((with_reducible apply oq_call (hc:=Tryz.call67));exact rfl;exact rfl;exact fun D w1 hw1=>HW _ w1 (int_rows (l:=[W,Hh]) rfl hw1 (by (repeat first|exact P0|apply P1))))|((with_reducible apply (oq_remE (k:=((a % W:Nat):Int))));exact rfl;exact rfl;exact tmod_nat rfl rfl;omega)|(apply oq_fn;exact rfl;first|exact trivial|(and_intros<;>omega)|omega|skip)|((with_reducible apply oq_load);exact rfl;exact rfl)|((with_reducible apply oq_build);(iterate 3 exact rfl))|((with_reducible apply oq_buildA);(iterate 4 exact rfl))|((with_reducible apply oq_indexAgg);(iterate 4 exact rfl)))|((with_reducible apply tl_id);first|(with_reducible apply tl_nil)|((with_reducible apply u_q);(iterate 4 exact rfl))|((with_reducible apply u_s0);exact rfl;exact rfl)|((with_reducible apply u_s);(iterate 3 exact rfl))|((with_reducible apply u_skip);(iterate 3 exact rfl)))|((with_reducible apply os_id);first|((with_reducible apply os_x);exact rfl)|((with_reducible apply os_storeAgg);(iterate 5 exact rfl))|((with_reducible apply os_appendNil (hk:=app_ok31));exact rfl;exact rfl)|((with_reducible apply os_append (hk:=app_ok31));exact rfl;exact rfl;(repeat first|exact P0|apply P1)))|((with_reducible apply ox_id);first|((with_reducible apply ox_boxAgg);exact rfl;intro _)|((with_reducible apply ox_alloc);exact rfl;intro _)|((with_reducible apply ox_buildSlice1);(iterate 6 exact rfl);intro _))|((with_reducible apply rd_id);first|(apply Rd.own;(repeat first|exact P0|apply P1);exact rfl;done))|((with_reducible apply t_id);first|(with_reducible apply t_seq)|(apply t_region;kernel_rfl)|((with_reducible apply t_condT);exact rfl)|((with_reducible apply t_condD);exact rfl;all_goals first|(intro _;try (exfalso;omega))|skip)|(with_reducible apply t_skip)|(with_reducible apply t_block)|((with_reducible apply t_condF);exact rfl)|(with_reducible apply t_exit)|(with_reducible apply t_ret))|with_reducible apply q_thenN|with_reducible apply q_blockN|exact P0|exact Rdn.zero|apply Rdn.succ|((with_reducible apply Norm.nil);exact rfl)|((with_reducible apply Norm.cons);exact rfl)|exact iv_len _|exact Nat.le_of_ble_eq_true rfl|exact (rfl:(_:Bool)=true)|omega|(intro _ _;with_reducible apply tl_id)|with_reducible apply q_thenE|((with_reducible apply q_blockE);exact rfl)|with_reducible apply q_thenR|(with_reducible apply end_ret)|exact rvs_nil|(with_reducible apply rvs_cons)|((with_reducible apply rv_tmp);exact rfl)));(try focus (repeat (rename_i x;first|exact goD x m1.p|revert x)));(try focus (repeat (rename_i x;first|exact goD x m2.p|revert x)));(try focus (repeat (rename_i x;first|exact goD x m3.p|revert x)));(try focus (repeat (rename_i x;first|exact goD x m4.p|revert x)));(try focus (repeat (rename_i x;first|exact goD x m5.p|revert x)));(try focus (repeat (rename_i x;first|exact goD x m6.p|revert x)));(try focus (repeat (rename_i x;first|exact goD x m7.p|revert x)));(try focus (repeat (rename_i x;first|exact goD x m8.p|revert x)));(try focus (repeat (rename_i x;first|exact goD x m9.p|revert x)));(try focus (repeat (rename_i x;first|exact goD x m10.p|revert x)));(try focus (repeat (rename_i x;first|exact goD x m11.p|revert x)));(try focus (repeat (rename_i x;first|exact goD x m12.p|revert x)));(try focus (repeat (rename_i x;first|exact goD x m13.p|revert x)));(try focus (repeat (rename_i x;first|exact goD x m14.p|revert x)));(try focus (repeat (rename_i x;first|exact goD x m15.p|revert x)));(try focus (repeat (rename_i x;first|exact goD x m16.p|revert x)))) (e:GoTs A1 A2 A3 A4 A5 A6 A7 A8 A9 A10 A11 A12 A13 A14 A15 A16:=by constructor<;>first|(with_reducible exact GoT.t)|exact GoT.u):G:=p.run h
theorem goF0e {G A1 A2 A3 A4 A5 A6 A7 A8 A9 A10 A11 A12 A13 A14 A15 A16:Prop} (p:GoP A1 A2 A3 A4 A5 A6 A7 A8 A9 A10 A11 A12 A13 A14 A15 A16) (h:GoL A1→GoL A2→GoL A3→GoL A4→GoL A5→GoL A6→GoL A7→GoL A8→GoL A9→GoL A10→GoL A11→GoL A12→GoL A13→GoL A14→GoL A15→GoL A16→GoM→G:=by intro m1 m2 m3 m4 m5 m6 m7 m8 m9 m10 m11 m12 m13 m14 m15 m16 _;(repeat' (first|((with_reducible apply oq_id);first|((with_reducible apply oc_id);first|((with_reducible apply oq_call (k:=f) (hc:=hc));exact rfl;exact rfl;exact fun D w1 hw1=>hf' w1 hw1.ext.ext)|((with_reducible apply oq_call (hc:=Tryz.call164));exact rfl;exact rfl;exact fun D w1 hw1=>down_calls _ _ (by omega) (by omega) (by first|exact M1|exact M2) w1)|((with_reducible apply oq_call (hc:=Tryz.call143));exact rfl;exact rfl;exact fun D w1 hw1=>around2 hw1 (by (repeat first|exact P0|apply P1)))|((with_reducible apply oq_call (hc:=Tryz.call120));exact rfl;exact rfl;exact fun D w1 hw1=>fromOne h0 hw1 (by (repeat first|exact P0|apply P1)))|((with_reducible apply oq_call (hc:=Tryz.call120));exact rfl;exact rfl;exact fun D w1 hw1=>fromOne h1 hw1 (by (repeat first|exact P0|apply P1)))|((with_reducible apply oq_call (hc:=Tryz.call120));exact rfl;exact rfl;exact fun D w1 hw1=>fromOne h3 hw1 (by (repeat first|exact P0|apply P1)))|((with_reducible apply oq_call (hc:=Tryz.call121));exact rfl;exact rfl;exact fun D w1 hw1=>inside_at _ _ _ _ h4 w1)|((with_reducible apply oq_call (hc:=Tryz.call121));exact rfl;exact rfl;exact fun D w1 hw1=>inside_at _ _ _ _ h5 w1)|((with_reducible apply oq_call (hc:=Tryz.call158));exact rfl;exact rfl;exact fun D w1 hw1=>within_q _ _ _ h0 w1)|((with_reducible apply oq_call (hc:=Tryz.call158));exact rfl;exact rfl;exact fun D w1 hw1=>within_q _ _ _ h1 w1)|((with_reducible apply oq_call (hc:=Tryz.call158));exact rfl;exact rfl;exact fun D w1 hw1=>within_q _ _ _ h3 w1)|((with_reducible apply oq_call (hc:=Tryz.call159));exact rfl;exact rfl;exact fun D w1 hw1=>in_q _ _ _ _ h4 w1)|((with_reducible apply oq_call (hc:=Tryz.call159));exact rfl;exact rfl;exact fun D w1 hw1=>in_q _ _ _ _ h5 w1))|(focus ((with_reducible apply oq_shr1N (a:=i+j));exact rfl;exact rfl;omega))|((with_reducible apply oq_subE (k:=(j:Int)));exact rfl;exact rfl;omega)|((with_reducible apply oq_addE (k:=((j+1+1:Nat):Int)));exact rfl;exact rfl;omega)|(focus ((apply oq_fn);exact rfl;exact ⟨by omega,r1⟩))|(focus ((with_reducible apply oq_convU);(iterate 3 exact rfl);(refine ⟨?_,?_⟩<;>omega)))|(focus ((with_reducible apply oq_indexAddrN);(iterate 4 exact rfl);omega))|(apply oq_fn;exact rfl;first|exact trivial|(and_intros<;>omega)|omega|skip)|((with_reducible apply oq_load);exact rfl;exact rfl)|((with_reducible apply oq_build);(iterate 3 exact rfl))|((with_reducible apply oq_loadAgg);exact rfl;exact rfl))|((with_reducible apply tl_id);first|(with_reducible apply tl_nil)|((with_reducible apply u_q);(iterate 4 exact rfl))|((with_reducible apply u_s0);exact rfl;exact rfl)|((with_reducible apply u_s);(iterate 3 exact rfl))|((with_reducible apply u_skip);(iterate 3 exact rfl))|((with_reducible apply u_splitD);exact rfl;exact rfl;all_goals first|(intro _;try (exfalso;omega))|skip)|((with_reducible apply u_split);exact rfl;exact rfl;all_goals first|intro _|skip))|((with_reducible apply gx_id);first|(with_reducible apply v_nil)|((with_reducible apply v_q);(iterate 3 exact rfl))|((with_reducible apply v_skip);(iterate 3 exact rfl))|((with_reducible apply v_splitD);exact rfl;exact rfl;all_goals first|(intro _;try (exfalso;omega))|skip)|((with_reducible apply v_split);exact rfl;exact rfl;all_goals first|intro _|skip))|((with_reducible apply os_id);first|((with_reducible apply os_x);exact rfl)|((with_reducible apply os_storeAgg);(iterate 5 exact rfl)))|((with_reducible apply ox_id);first|((with_reducible apply ox_alloc);exact rfl;intro _)|((with_reducible apply ox_buildSlice2);(iterate 6 exact rfl);intro _)|((with_reducible apply ox_buildSlice1);(iterate 6 exact rfl);intro _)|((with_reducible apply ox_boxAgg);exact rfl;intro _))|((with_reducible apply ai_id);first|((with_reducible apply ai_s0);(iterate 4 exact rfl))|((with_reducible apply ai_q);(iterate 5 exact rfl))|((with_reducible apply ai_x);(iterate 5 exact rfl))|((with_reducible apply ai_skip);(iterate 4 exact rfl)))|((with_reducible apply rd_id);first|(apply Rd.old;exact m0;exact List.not_mem_nil)|(apply Rd.old;(first|(with_reducible assumption)|exact c0|exact c1|exact c2);first|exact List.not_mem_nil|exact m0|exact m1)|(apply Rd.old;(first|exact c0|exact c5|exact d0|exact e0);exact List.not_mem_nil)|(apply Rd.own;(repeat first|exact P0|apply P1);exact rfl;done))|((with_reducible apply t_id);first|(with_reducible apply t_seq)|(apply t_region;kernel_rfl)|(apply t_drawn;kernel_rfl;decide +kernel)|((with_reducible apply t_condT);exact rfl)|((with_reducible apply t_condF);exact rfl)|((with_reducible apply t_condD);exact rfl;all_goals first|(intro _;try (exfalso;omega))|skip)|((with_reducible apply t_cond);exact rfl;all_goals first|intro _|skip)|(with_reducible apply t_ret)|(with_reducible apply t_exit)|(with_reducible apply t_skip)|(with_reducible apply t_block))|with_reducible apply q_thenN|with_reducible apply q_thenE|((with_reducible apply q_blockE);exact rfl)|with_reducible apply q_thenR|with_reducible apply q_blockR|with_reducible apply q_blockN|exact P0|(with_reducible apply P1)|exact Rdn.zero|apply Rdn.succ|((with_reducible apply Norm.nil);exact rfl)|((with_reducible apply Norm.cons);exact rfl)|(with_reducible apply end_ret)|exact rvs_nil|(with_reducible apply rvs_cons)|((with_reducible apply rv_tmp);exact rfl)|((with_reducible apply rv_cellAgg);exact rfl;exact rfl)|(apply t_mix (id:=5) [0,1,2,3,4,5,6,7,8,9,10,11,12,13,14,15,16,17,18,19,20,21,22,23,24,25,26,27,28,29,30] 1 #[false,false,false,false,false,false,false,false,false,false,false,false,false,false,false,false,false,false,false,false,false,false,false,false,false,false,false,false,false,false,false,true];kernel_rfl;kernel_rfl;exact rfl)|(apply t_mix (id:=6) [0,1] 25 #[false,false,false,false,false,false,false,false,false,false,false,false,false,false,false,false,false,false,false,false,false,false,false,false,false,false,false];kernel_rfl;kernel_rfl;exact rfl)|((with_reducible apply al_id);first|(apply al_more [4,5,6,7,8,9,10,11,12,13,14,15,16,17,18,19,20,21,22] 4;decide +kernel;exact rfl;exact rfl;focus (repeat first|exact HpSub.refl _|(apply HpSub.cons;(repeat first|exact P0|apply P1))|exact HpSub.nil))|(apply al_more [25,26] 0;decide +kernel;exact rfl;exact rfl;focus (repeat first|exact HpSub.refl _|(apply HpSub.cons;(repeat first|exact P0|apply P1))|exact HpSub.nil))|(apply al_done;decide +kernel)|(apply al_one 31;decide +kernel)|(apply al_one 2;decide +kernel)|(apply al_one 3;decide +kernel)|(apply al_one 23;decide +kernel)|(apply al_one 24;decide +kernel))|exact Nat.le_of_ble_eq_true rfl));(try focus (repeat (rename_i x;first|exact goD x m1.p|revert x)));(try focus (repeat (rename_i x;first|exact goD x m2.p|revert x)));(try focus (repeat (rename_i x;first|exact goD x m3.p|revert x)));(try focus (repeat (rename_i x;first|exact goD x m4.p|revert x)));(try focus (repeat (rename_i x;first|exact goD x m5.p|revert x)));(try focus (repeat (rename_i x;first|exact goD x m6.p|revert x)));(try focus (repeat (rename_i x;first|exact goD x m7.p|revert x)));(try focus (repeat (rename_i x;first|exact goD x m8.p|revert x)));(try focus (repeat (rename_i x;first|exact goD x m9.p|revert x)));(try focus (repeat (rename_i x;first|exact goD x m10.p|revert x)));(try focus (repeat (rename_i x;first|exact goD x m11.p|revert x)));(try focus (repeat (rename_i x;first|exact goD x m12.p|revert x)));(try focus (repeat (rename_i x;first|exact goD x m13.p|revert x)));(try focus (repeat (rename_i x;first|exact goD x m14.p|revert x)));(try focus (repeat (rename_i x;first|exact goD x m15.p|revert x)));(try focus (repeat (rename_i x;first|exact goD x m16.p|revert x)))) (e:GoTs A1 A2 A3 A4 A5 A6 A7 A8 A9 A10 A11 A12 A13 A14 A15 A16:=by constructor<;>first|(with_reducible exact GoT.t)|exact GoT.u):G:=p.run h
theorem countP_drop {α:Type} {p:α→Bool}:∀ {l:List α} {i:Nat} {u v:α},l[i]?=some u→p u=true→p v=false→(l.set i v).countP p+1=l.countP p
 | [],i,u,v,h,_,_=>by simp at h
 | x::l,0,u,v,h,hu,hv=>by
   obtain rfl:x=u:=by simpa using h
   simp [List.countP_cons,hu,hv]
 | x::l,i+1,u,v,h,hu,hv=>by
   have:=countP_drop (l:=l) (i:=i) (by simpa using h) hu hv
   simp only [List.set_cons_succ,List.countP_cons]
   omega
def nb (W n a:Nat):List Nat:=
 (if W≤a then [a-W] else [])++((if 0<a % W then [a-1] else [])++((if a % W+1<W then [a+1] else [])++(if a+W<n then [a+W] else [])))
theorem mem_nb {W n a c:Nat}:c∈nb W n a↔(W≤a∧c=a-W)∨(0<a % W∧c=a-1)∨(a % W+1<W∧c=a+1)∨(a+W<n∧c=a+W):=by
 unfold nb
 simp only [List.mem_append]
 constructor
 · rintro (h|h|h|h)<;>split at h<;>simp at h<;>omega
 · rintro (⟨h,rfl⟩|⟨h,rfl⟩|⟨h,rfl⟩|⟨h,rfl⟩)<;>simp [h]
theorem nb_len (W n a:Nat):(nb W n a).length≤4:=by
 unfold nb
 simp only [List.length_append]
 repeat' split
 all_goals simp
structure Ter (W Hh n:Nat):Prop where
 w1:1≤W
 h1:1≤Hh
 w24:W≤24
 h24:Hh≤24
 hn:n=W*Hh
theorem Ter.n0 {W Hh n:Nat} (h:Ter W Hh n):0<n:=by rw [h.hn];exact Nat.mul_pos h.w1 h.h1
theorem Ter.n576 {W Hh n:Nat} (h:Ter W Hh n):n≤576:=by rw [h.hn];exact Nat.mul_le_mul h.w24 h.h24
theorem row_lt {W Hh a:Nat} (h:a<W*Hh) (hw:1≤W):a / W<Hh:=by
 rw [Nat.div_lt_iff_lt_mul (by omega),Nat.mul_comm];exact h
theorem nb_lt {W Hh n a c:Nat} (t:Ter W Hh n) (ha:a<n) (h:c∈nb W n a):c<n:=by
 rw [mem_nb] at h
 rcases h with ⟨h,rfl⟩|⟨h,rfl⟩|⟨h,rfl⟩|⟨h,rfl⟩
 · have:=t.w1;omega
 · omega
 · have hr:=row_lt (t.hn ▸ ha) t.w1
   have h1:=Nat.div_add_mod a W
   have h2:W*(a / W)+W≤W*Hh:=by
     have:=Nat.mul_le_mul_left W (show a / W+1≤Hh by omega)
     rw [Nat.mul_add,Nat.mul_one] at this;exact this
   rw [t.hn];omega
 · exact h
theorem mod_up {W a:Nat} (hw:1≤W) (h:a % W+1<W):(a+1) % W=a % W+1:=by
 rw [Nat.add_mod]
 by_cases h1:W=1
 · omega
 · rw [Nat.mod_eq_of_lt (show 1<W by omega),Nat.mod_eq_of_lt h]
theorem mod_dn {W a:Nat} (hw:1≤W) (h:0<a % W):(a-1) % W+1=a % W:=by
 have h1:=Nat.mod_lt a (show 0<W by omega)
 have h2:=Nat.div_add_mod a W
 have h3:a-1=W*(a / W)+(a % W-1):=by omega
 rw [h3,Nat.mul_add_mod,Nat.mod_eq_of_lt (by omega)];omega
theorem nb_symm {W Hh n a c:Nat} (t:Ter W Hh n) (ha:a<n) (h:c∈nb W n a):a∈nb W n c:=by
 have hw:=t.w1
 rw [mem_nb] at h ⊢
 rcases h with ⟨h,rfl⟩|⟨h,rfl⟩|⟨h,rfl⟩|⟨h,rfl⟩
 · exact .inr (.inr (.inr ⟨by omega,by omega⟩))
 · have h1:=mod_dn hw h
   have h2:=Nat.mod_lt a (show 0<W by omega)
   exact .inr (.inr (.inl ⟨by omega,by
     have:0<a:=by rcases Nat.eq_zero_or_pos a with rfl|h3;simp at h;exact h3
     omega⟩))
 · have h1:=mod_up hw h
   exact .inr (.inl ⟨by omega,by omega⟩)
 · exact .inl ⟨by omega,by omega⟩
def gr (g:List Int) (c:Nat):Int:=g.getD c 0
theorem gr_of {g:List Int} {c:Nat} {x:Int} (h:g[c]?=some x):gr g c=x:=by simp [gr,List.getD,h]
inductive Rch (W n:Nat) (g:List Int) (h:Int) (a:Nat):Nat→Prop
 | refl (ha:gr g a≤h):Rch W n g h a a
 | step {b c:Nat} (k:Rch W n g h a b) (hc:c∈nb W n b) (hg:gr g c≤h):Rch W n g h a c
section
variable {W Hh n:Nat} {g:List Int} {h:Int} {a b c:Nat}
theorem Rch.src (k:Rch W n g h a b):gr g a≤h:=by
 induction k with
 | refl ha=>exact ha
 | step _ _ _ ih=>exact ih
theorem Rch.dst (k:Rch W n g h a b):gr g b≤h:=by
 cases k with
 | refl ha=>exact ha
 | step _ _ hg=>exact hg
theorem Rch.lt (t:Ter W Hh n) (ha:a<n) (k:Rch W n g h a b):b<n:=by
 induction k with
 | refl _=>exact ha
 | step _ hc _ ih=>exact nb_lt t ih hc
theorem Rch.mono {h':Int} (hh:h≤h') (k:Rch W n g h a b):Rch W n g h' a b:=by
 induction k with
 | refl ha=>exact .refl (by omega)
 | step _ hc hg ih=>exact .step ih hc (by omega)
theorem Rch.trans (k:Rch W n g h a b) (l:Rch W n g h b c):Rch W n g h a c:=by
 induction l with
 | refl _=>exact k
 | step _ hc hg ih=>exact .step ih hc hg
theorem Rch.symm (t:Ter W Hh n) (ha:a<n) (k:Rch W n g h a b):Rch W n g h b a:=by
 induction k with
 | refl h1=>exact .refl h1
 | step k hc hg ih=>
   exact (Rch.step (.refl hg) (nb_symm t (k.lt t ha) hc) k.dst).trans ih
theorem rch_zero (t:Ter W Hh n) (hg:∀ c,c<n→gr g c≤h):∀ c,c<n→Rch W n g h c 0:=by
 intro c
 induction c using Nat.strongRecOn with
 | ind c ih=>
   intro hc
   have hw:=t.w1
   by_cases h0:c=0
   · subst h0;exact .refl (hg 0 hc)
   · by_cases h1:W≤c
     · exact (Rch.step (.refl (hg c hc)) (mem_nb.2 (.inl ⟨h1,rfl⟩)) (hg _ (by omega))).trans (ih (c-W) (by omega) (by omega))
     · have:0<c % W:=by rw [Nat.mod_eq_of_lt (by omega)];omega
       exact (Rch.step (.refl (hg c hc)) (mem_nb.2 (.inr (.inl ⟨this,rfl⟩))) (hg _ (by omega))).trans (ih (c-1) (by omega) (by omega))
theorem rch_all (t:Ter W Hh n) (hg:∀ c,c<n→gr g c≤h) (ha:a<n) (hb:b<n):Rch W n g h a b:=
 (rch_zero t hg a ha).trans ((rch_zero t hg b hb).symm t hb)
end
structure IsPass (W n:Nat) (g:List Int) (a b:Nat) (h:Int):Prop where
 is:Rch W n g h a b
 least:∀ k,Rch W n g k a b→h≤k
theorem IsPass.uniq {W n:Nat} {g:List Int} {a b:Nat} {h h':Int} (x:IsPass W n g a b h) (y:IsPass W n g a b h'):h=h':=
 Int.le_antisymm (x.least _ y.is) (y.least _ x.is)
/-! The search for the lowest path -/
section
variable {W Hh n:Nat} {g:List Int} {a:Nat}
structure Sea (W n:Nat) (g:List Int) (a:Nat) (seen:List Bool) (f:List (Int×Nat)):Prop where
 len:seen.length=n
 lt:∀ x∈f,x.2<n
 rch:∀ x∈f,Rch W n g x.1 a x.2
 seen_:∀ u,seen[u]?=some true→∃ k,(∀ H,Rch W n g H a u→k≤H)∧∀ c∈nb W n u,seen[c]?=some true∨∃ x∈f,x.2=c∧x.1≤max k (gr g c)
 start:seen[a]?=some true∨∃ x∈f,x.2=a∧x.1≤gr g a
theorem Sea.front {seen:List Bool} {f:List (Int×Nat)} (s:Sea W n g a seen f) {b:Nat} {H:Int} (k:Rch W n g H a b) (hb:¬ seen[b]?=some true):∃ x∈f,x.1≤H:=by
 induction k with
 | refl ha=>
   rcases s.start with h|⟨x,h1,_,h2⟩
   · exact (hb h).elim
   · exact ⟨x,h1,by omega⟩
 | step k hc hg ih=>
   rename_i b c
   by_cases hs:seen[b]?=some true
   · obtain ⟨q,h1,h2⟩:=s.seen_ b hs
     rcases h2 _ hc with h3|⟨x,h3,_,h4⟩
     · exact (hb h3).elim
     · have:=h1 _ k
       exact ⟨x,h3,by omega⟩
   · exact ih hs
theorem Sea.least {seen:List Bool} {f:List (Int×Nat)} (s:Sea W n g a seen f) {x:Int×Nat} (hx:x∈f) (hm:∀ y∈f,x.1≤y.1) (hs:¬ seen[x.2]?=some true):IsPass W n g a x.2 x.1:=
 ⟨s.rch x hx,fun k hk=>by
   obtain ⟨y,h1,h2⟩:=s.front hk hs
   have:=hm y h1;omega⟩
theorem Sea.first (h0:a<n):Sea W n g a (List.replicate n false) [(gr g a,a)]:=by
 refine ⟨by simp,fun x hx=>?_,fun x hx=>?_,fun u hu=>?_,.inr ⟨_,List.mem_cons_self ..,rfl,Int.le_refl _⟩⟩
 · obtain rfl:x=(gr g a,a):=by simpa using hx
   exact h0
 · obtain rfl:x=(gr g a,a):=by simpa using hx
   exact .refl (Int.le_refl _)
 · rw [List.getElem?_replicate] at hu
   split at hu<;>simp at hu
theorem Sea.skip {seen:List Bool} {f f':List (Int×Nat)} (s:Sea W n g a seen f) {x:Int×Nat} (hp:f.Perm (x::f')) (hs:seen[x.2]?=some true):Sea W n g a seen f':=by
 have hin:∀ y∈f',y∈f:=fun y hy=>hp.mem_iff.2 (List.mem_cons_of_mem _ hy)
 have hout:∀ y∈f,y.2≠x.2→y∈f':=fun y hy hne=>by
   rcases List.mem_cons.1 (hp.mem_iff.1 hy) with rfl|h
   · exact (hne rfl).elim
   · exact h
 refine ⟨s.len,fun y hy=>s.lt y (hin y hy),fun y hy=>s.rch y (hin y hy),fun u hu=>?_,?_⟩
 · obtain ⟨k,h1,h2⟩:=s.seen_ u hu
   refine ⟨k,h1,fun c hc=>?_⟩
   rcases h2 c hc with h3|⟨y,h3,rfl,h4⟩
   · exact .inl h3
   · by_cases he:y.2=x.2
     · rw [he];exact .inl hs
     · exact .inr ⟨y,hout y h3 he,rfl,h4⟩
 · rcases s.start with h|⟨y,h1,h2,h3⟩
   · exact .inl h
   · by_cases he:y.2=x.2
     · rw [← h2,he];exact .inl hs
     · exact .inr ⟨y,hout y h1 he,h2,h3⟩
theorem Sea.next (t:Ter W Hh n) {seen:List Bool} {f f' f2:List (Int×Nat)} (s:Sea W n g a seen f) {x:Int×Nat} (hp:f.Perm (x::f')) (hm:∀ y∈f,x.1≤y.1) (hs:¬ seen[x.2]?=some true)
   (hf:f2.Perm ((nb W n x.2).map (fun c=>(max x.1 (gr g c),c))++f')):Sea W n g a (seen.set x.2 true) f2:=by
 have hx:x∈f:=hp.mem_iff.2 (List.mem_cons_self ..)
 have hlt:=s.lt x hx
 have hP:=s.least hx hm hs
 have hin:∀ y∈f',y∈f:=fun y hy=>hp.mem_iff.2 (List.mem_cons_of_mem _ hy)
 have hnew:∀ y∈f2,(∃ c∈nb W n x.2,y=(max x.1 (gr g c),c))∨y∈f':=fun y hy=>by
   rcases List.mem_append.1 (hf.mem_iff.1 hy) with h|h
   · obtain ⟨c,h1,rfl⟩:=List.mem_map.1 h
     exact .inl ⟨c,h1,rfl⟩
   · exact .inr h
 have hset:∀ c,(seen.set x.2 true)[c]?=some true↔c=x.2∨seen[c]?=some true:=fun c=>by
   rw [List.getElem?_set]
   by_cases h:x.2=c
   · subst h;simp [s.len,hlt]
   · rw [if_neg h]
     constructor
     · intro h1;exact .inr h1
     · rintro (h1|h1)
       · exact (h h1.symm).elim
       · exact h1
 have hkeep:∀ y∈f,y.2≠x.2→y∈f2:=fun y hy hne=>by
   rcases List.mem_cons.1 (hp.mem_iff.1 hy) with rfl|h
   · exact (hne rfl).elim
   · exact hf.mem_iff.2 (List.mem_append_right _ h)
 refine ⟨by simp [s.len],fun y hy=>?_,fun y hy=>?_,fun u hu=>?_,?_⟩
 · rcases hnew y hy with ⟨c,h1,rfl⟩|h1
   · exact nb_lt t hlt h1
   · exact s.lt y (hin y h1)
 · rcases hnew y hy with ⟨c,h1,rfl⟩|h1
   · exact (Rch.step ((s.rch x hx).mono (by simp only [];omega)) h1 (by simp only [];omega))
   · exact s.rch y (hin y h1)
 · by_cases he:u=x.2
   · subst he
     refine ⟨x.1,hP.least,fun c hc=>.inr ⟨_,hf.mem_iff.2 (List.mem_append_left _ (List.mem_map.2 ⟨c,hc,rfl⟩)),rfl,Int.le_refl _⟩⟩
   · obtain ⟨k,h1,h2⟩:=s.seen_ u (((hset u).1 hu).resolve_left he)
     refine ⟨k,h1,fun c hc=>?_⟩
     rcases h2 c hc with h3|⟨y,h3,rfl,h4⟩
     · exact .inl ((hset c).2 (.inr h3))
     · by_cases hy:y.2=x.2
       · exact .inl ((hset _).2 (.inl hy))
       · exact .inr ⟨y,hkeep y h3 hy,rfl,h4⟩
 · rcases s.start with h|⟨y,h1,h2,h3⟩
   · exact .inl ((hset a).2 (.inr h))
   · by_cases hy:y.2=x.2
     · exact .inl ((hset a).2 (.inl (by rw [← h2,hy])))
     · exact .inr ⟨y,hkeep y h1 hy,h2,h3⟩
end
/-! How many steps are left -/
def bfsRow (g:List Int) (h:Int) (d:Nat):List Nat→List Nat×List Nat→List Nat×List Nat
 | [],s=>s
 | c::l,s=>bfsRow g h d l (if s.1.getD c 0=0∧gr g c≤h then (s.1.set c d,s.2++[c]) else s)
inductive Bfs (W n:Nat) (g:List Int) (h:Int) (L:List Nat):Nat→List Nat→List Nat→Prop
 | done:Bfs W n g h L 0 L []
 | next {k a:Nat} {lev q:List Nat} (s:Bfs W n g h L k (bfsRow g h (lev.getD a 0+1) (nb W n a) (lev,q)).1 (bfsRow g h (lev.getD a 0+1) (nb W n a) (lev,q)).2):Bfs W n g h L (k+1) lev (a::q)
structure Dist (W n:Nat) (g:List Int) (h:Int) (b:Nat) (L:List Nat):Prop where
 len:L.length=n
 one:∀ c,c<n→(L.getD c 0=1↔c=b)
 low:∀ c,c<n→0<L.getD c 0→gr g c≤h
 prev:∀ c,c<n→1<L.getD c 0→∃ d∈nb W n c,L.getD d 0+1=L.getD c 0
 next:∀ c,c<n→0<L.getD c 0→∀ d∈nb W n c,gr g d≤h→0<L.getD d 0∧L.getD d 0≤L.getD c 0+1
 bnd:∀ c,L.getD c 0≤n+1
theorem getD_set {l:List Nat} {i j v:Nat}:(l.set i v).getD j 0=if i=j∧i<l.length then v else l.getD j 0:=by
 simp only [List.getD_eq_getElem?_getD,List.getElem?_set]
 by_cases h:i=j
 · subst h
   by_cases h2:i<l.length
   · simp [h2]
   · simp [h2]
 · simp [h]
structure WI (n:Nat) (lev q:List Nat):Prop where
 len:lev.length=n
 lt:∀ c∈q,c<n
 cnt:q.length+lev.countP (fun x=>x == 0)≤n
 bnd:∀ c,lev.getD c 0+lev.countP (fun x=>x == 0)≤n+1
theorem WI.one {n d c:Nat} {lev q:List Nat} (w:WI n lev q) (hc:c<n) (h0:lev.getD c 0=0) (hd:0<d) (hdb:d+lev.countP (fun x=>x == 0)≤n+2):WI n (lev.set c d) (q++[c]):=by
 have hg:lev[c]?=some 0:=by
   have:c<lev.length:=by rw [w.len];exact hc
   rw [List.getD_eq_getElem?_getD,List.getElem?_eq_getElem this] at h0
   rw [List.getElem?_eq_getElem this]
   simpa using h0
 have hk:=countP_drop (p:=fun x:Nat=>x == 0) (v:=d) hg (by simp) (by simp;omega)
 refine ⟨by simp [w.len],fun x hx=>?_,?_,fun x=>?_⟩
 · rcases List.mem_append.1 hx with h|h
   · exact w.lt x h
   · obtain rfl:x=c:=by simpa using h
     exact hc
 · have:=w.cnt;simp only [List.length_append,List.length_singleton];omega
 · rw [getD_set]
   have:=w.bnd x
   split<;>omega
theorem WI.pop {n a:Nat} {lev q:List Nat} (w:WI n lev (a::q)):WI n lev q:=
 ⟨w.len,fun c hc=>w.lt c (List.mem_cons_of_mem _ hc),by have:=w.cnt;simp at this;omega,w.bnd⟩
structure RowF (g:List Int) (h:Int) (d:Nat) (l lev q lev' q':List Nat):Prop where
 len:lev'.length=lev.length
 keep:∀ c,0<lev.getD c 0→lev'.getD c 0=lev.getD c 0
 new:∀ c,lev'.getD c 0≠lev.getD c 0→lev.getD c 0=0∧lev'.getD c 0=d∧c∈l∧gr g c≤h∧c∈q'
 all:∀ c∈l,c<lev.length→gr g c≤h→0<lev'.getD c 0
 que:∃ x,q'=q++x∧∀ c∈x,lev'.getD c 0=d∧c<lev.length
theorem bfsRow_spec {g:List Int} {h:Int} {d:Nat} (hd:0<d):∀ (l lev q:List Nat),(∀ c∈l,c<lev.length)→RowF g h d l lev q (bfsRow g h d l (lev,q)).1 (bfsRow g h d l (lev,q)).2
 | [],lev,q,_=>⟨rfl,fun _ _=>rfl,fun _ h=>(h rfl).elim,fun _ h=>(List.not_mem_nil h).elim,[],by simp [bfsRow],fun _ h=>(List.not_mem_nil h).elim⟩
 | c::l,lev,q,hl=>by
   unfold bfsRow
   have hcl:=hl c (List.mem_cons_self ..)
   by_cases hc:lev.getD c 0=0∧gr g c≤h
   · rw [if_pos hc]
     have ih:=bfsRow_spec (g:=g) (h:=h) hd l (lev.set c d) (q++[c]) (fun x hx=>by simpa using hl x (List.mem_cons_of_mem _ hx))
     simp only []
     generalize (bfsRow g h d l (lev.set c d,q++[c])).1=lev' at ih ⊢
     generalize (bfsRow g h d l (lev.set c d,q++[c])).2=q' at ih ⊢
     have hset:∀ x,(lev.set c d).getD x 0=if c=x then d else lev.getD x 0:=fun x=>by
       rw [getD_set];simp [hcl]
     have hcd:lev'.getD c 0=d:=by rw [ih.keep c (by rw [hset];simp;exact hd),hset];simp
     obtain ⟨y,hq1,hq2⟩:=ih.que
     have hcq:c∈q':=by rw [hq1];simp
     refine ⟨by rw [ih.len];simp,fun x hx=>?_,fun x hx=>?_,fun x hx hlt hgx=>?_,⟨c::y,by simp [hq1],fun x hx=>?_⟩⟩
     · have hne:c≠x:=fun e=>by subst e;omega
       rw [ih.keep x (by rw [hset,if_neg hne];exact hx),hset,if_neg hne]
     · by_cases hne:c=x
       · subst hne
         exact ⟨hc.1,hcd,List.mem_cons_self ..,hc.2,hcq⟩
       · obtain ⟨h1,h2,h3,h4,h5⟩:=ih.new x (by rw [hset,if_neg hne];exact hx)
         rw [hset,if_neg hne] at h1
         exact ⟨h1,h2,List.mem_cons_of_mem _ h3,h4,h5⟩
     · rcases List.mem_cons.1 hx with rfl|hx
       · omega
       · exact ih.all x hx (by simpa using hlt) hgx
     · rcases List.mem_cons.1 hx with rfl|hx
       · exact ⟨hcd,hcl⟩
       · obtain ⟨h1,h2⟩:=hq2 x hx
         exact ⟨h1,by simpa using h2⟩
   · rw [if_neg hc]
     have ih:=bfsRow_spec (g:=g) (h:=h) hd l lev q (fun x hx=>hl x (List.mem_cons_of_mem _ hx))
     skip
     generalize (bfsRow g h d l (lev,q)).1=lev' at ih ⊢
     generalize (bfsRow g h d l (lev,q)).2=q' at ih ⊢
     refine ⟨ih.len,ih.keep,fun x hx=>?_,fun x hx hlt hgx=>?_,ih.que⟩
     · obtain ⟨h1,h2,h3,h4,h5⟩:=ih.new x hx
       exact ⟨h1,h2,List.mem_cons_of_mem _ h3,h4,h5⟩
     · rcases List.mem_cons.1 hx with rfl|hx
       · have:lev.getD x 0≠0:=fun e=>hc ⟨e,hgx⟩
         rw [ih.keep x (by omega)];omega
       · exact ih.all x hx hlt hgx
theorem bfsRow_WI {n:Nat} {g:List Int} {h:Int} {d:Nat} (hd:0<d):∀ (l lev q:List Nat),(∀ c∈l,c<n)→WI n lev q→d+lev.countP (fun x=>x == 0)≤n+2 →
   WI n (bfsRow g h d l (lev,q)).1 (bfsRow g h d l (lev,q)).2
 | [],lev,q,_,w,_=>w
 | c::l,lev,q,hl,w,hb=>by
   unfold bfsRow
   have hcl:=hl c (List.mem_cons_self ..)
   by_cases hc:lev.getD c 0=0∧gr g c≤h
   · rw [if_pos hc]
     refine bfsRow_WI hd l _ _ (fun x hx=>hl x (List.mem_cons_of_mem _ hx)) (w.one hcl hc.1 hd hb) ?_
     have hg:lev[c]?=some 0:=by
       have h0:=hc.1
       have:c<lev.length:=by rw [w.len];exact hcl
       rw [List.getD_eq_getElem?_getD,List.getElem?_eq_getElem this] at h0
       rw [List.getElem?_eq_getElem this]
       simpa using h0
     have:=countP_drop (p:=fun x:Nat=>x == 0) (v:=d) hg (by simp) (by simp;omega)
     simp only []
     omega
   · rw [if_neg hc]
     exact bfsRow_WI hd l _ _ (fun x hx=>hl x (List.mem_cons_of_mem _ hx)) w hb
structure BI (W n:Nat) (g:List Int) (h:Int) (b:Nat) (lev q:List Nat):Prop extends WI n lev q where
 set_:∀ c∈q,0<lev.getD c 0
 one:∀ c,c<n→(lev.getD c 0=1↔c=b)
 low:∀ c,c<n→0<lev.getD c 0→gr g c≤h
 prev:∀ c,c<n→1<lev.getD c 0→∃ d∈nb W n c,lev.getD d 0+1=lev.getD c 0
 next:∀ c,c<n→0<lev.getD c 0→c∉q→∀ d∈nb W n c,gr g d≤h→0<lev.getD d 0∧lev.getD d 0≤lev.getD c 0+1
 ord:∃ e q1 q2,(∀ c,lev.getD c 0≤e+1)∧q=q1++q2∧(∀ c∈q1,lev.getD c 0=e)∧∀ c∈q2,lev.getD c 0=e+1
theorem BI.round {W Hh n:Nat} {g:List Int} {h:Int} {b a:Nat} {lev q:List Nat} (t:Ter W Hh n) (i:BI W n g h b lev (a::q)) :
   BI W n g h b (bfsRow g h (lev.getD a 0+1) (nb W n a) (lev,q)).1 (bfsRow g h (lev.getD a 0+1) (nb W n a) (lev,q)).2:=by
 have ha:a<n:=i.lt a (List.mem_cons_self ..)
 have ha0:=i.set_ a (List.mem_cons_self ..)
 have hl:∀ c∈nb W n a,c<n:=fun c hc=>nb_lt t ha hc
 have hw:=bfsRow_WI (g:=g) (h:=h) (d:=lev.getD a 0+1) (by omega) (nb W n a) lev q hl i.toWI.pop (by have:=i.bnd a;omega)
 have hr:=bfsRow_spec (g:=g) (h:=h) (d:=lev.getD a 0+1) (by omega) (nb W n a) lev q (fun c hc=>by rw [i.len];exact hl c hc)
 generalize (bfsRow g h (lev.getD a 0+1) (nb W n a) (lev,q)).1=lev' at hw hr ⊢
 generalize (bfsRow g h (lev.getD a 0+1) (nb W n a) (lev,q)).2=q' at hw hr ⊢
 -- the front's levels
 obtain ⟨e,q1,q2,hm,hqe,hq1,hq2⟩:∃ e q1 q2,(∀ c,lev.getD c 0≤e+1)∧q=q1++q2∧(∀ c∈q1,lev.getD c 0=e)∧(∀ c∈q2,lev.getD c 0=e+1)∧lev.getD a 0=e:=by
   obtain ⟨e,q1,q2,hm,hqe,hq1,hq2⟩:=i.ord
   cases q1 with
   | nil=>
     rw [List.nil_append] at hqe
     subst hqe
     exact ⟨e+1,q,[],fun c=>by have:=hm c;omega,by simp,fun c hc=>hq2 c (List.mem_cons_of_mem _ hc),fun c hc=>(List.not_mem_nil hc).elim,hq2 a (List.mem_cons_self ..)⟩
   | cons x q1=>
     rw [List.cons_append,List.cons.injEq] at hqe
     obtain ⟨rfl,rfl⟩:=hqe
     exact ⟨e,q1,q2,hm,rfl,fun c hc=>hq1 c (List.mem_cons_of_mem _ hc),hq2,hq1 a (List.mem_cons_self ..)⟩
 obtain ⟨hq2,hae⟩:=hq2
 obtain ⟨x,hx1,hx2⟩:=hr.que
 have hcase:∀ c,lev'.getD c 0=lev.getD c 0∨(lev.getD c 0=0∧lev'.getD c 0=lev.getD a 0+1∧c∈nb W n a∧gr g c≤h∧c∈q'):=fun c=>by
   by_cases hc:lev'.getD c 0=lev.getD c 0
   · exact .inl hc
   · exact .inr (hr.new c hc)
 have hge:∀ c,lev.getD c 0≤lev'.getD c 0:=fun c=>by rcases hcase c with h1|h1<;>omega
 have ha':lev'.getD a 0=lev.getD a 0:=hr.keep a ha0
 refine ⟨hw,fun c hc=>?_,fun c hc=>?_,fun c hc h0=>?_,fun c hc h1=>?_,fun c hc h0 hnq d hd hgd=>?_,⟨e,q1,q2++x,fun c=>?_,by rw [hx1,hqe,List.append_assoc],fun c hc=>?_,fun c hc=>?_⟩⟩
 · rw [hx1] at hc
   rcases List.mem_append.1 hc with hc|hc
   · have:=i.set_ c (List.mem_cons_of_mem _ hc);have:=hge c;omega
   · have:=hx2 c hc;omega
 · rcases hcase c with h1|h1
   · rw [h1];exact i.one c hc
   · constructor
     · intro h2;omega
     · rintro rfl
       have:=(i.one c hc).2 rfl;omega
 · rcases hcase c with h1|h1
   · exact i.low c hc (by omega)
   · exact h1.2.2.2.1
 · rcases hcase c with h2|h2
   · obtain ⟨d,h3,h4⟩:=i.prev c hc (by omega)
     exact ⟨d,h3,by rw [hr.keep d (by omega)];omega⟩
   · exact ⟨a,nb_symm t ha h2.2.2.1,by omega⟩
 · rcases hcase c with h2|h2
   · by_cases hca:c=a
     · subst hca
       have h3:=hr.all d hd (by rw [i.len];exact hl d hd) hgd
       refine ⟨h3,?_⟩
       rcases hcase d with h4|h4
       · have:=hm d;omega
       · omega
     · have hcq:c∉a::q:=fun hmem=>by
         rcases List.mem_cons.1 hmem with h3|h3
         · exact hca h3
         · exact hnq (by rw [hx1];exact List.mem_append_left _ h3)
       obtain ⟨h3,h4⟩:=i.next c hc (by omega) hcq d hd hgd
       rw [hr.keep d h3]
       omega
   · exact (hnq h2.2.2.2.2).elim
 · rcases hcase c with h1|h1
   · have:=hm c;omega
   · omega
 · rw [hr.keep c (i.set_ c (List.mem_cons_of_mem _ (by rw [hqe];exact List.mem_append_left _ hc)))]
   exact hq1 c hc
 · rcases List.mem_append.1 hc with hc|hc
   · rw [hr.keep c (i.set_ c (List.mem_cons_of_mem _ (by rw [hqe];exact List.mem_append_right _ hc)))]
     exact hq2 c hc
   · have:=hx2 c hc;omega
theorem bfsRow_cnt {n:Nat} {g:List Int} {h:Int} {d:Nat} (hd:0<d):∀ (l lev q:List Nat),(∀ c∈l,c<lev.length) →
   (bfsRow g h d l (lev,q)).2.length+(bfsRow g h d l (lev,q)).1.countP (fun x=>x == 0)=q.length+lev.countP (fun x=>x == 0)
 | [],lev,q,_=>rfl
 | c::l,lev,q,hl=>by
   unfold bfsRow
   by_cases hc:lev.getD c 0=0∧gr g c≤h
   · rw [if_pos hc,bfsRow_cnt (n:=n) hd l _ _ (fun x hx=>by simpa using hl x (List.mem_cons_of_mem _ hx))]
     have hg:lev[c]?=some 0:=by
       have h0:=hc.1
       have:c<lev.length:=hl c (List.mem_cons_self ..)
       rw [List.getD_eq_getElem?_getD,List.getElem?_eq_getElem this] at h0
       rw [List.getElem?_eq_getElem this]
       simpa using h0
     have:=countP_drop (p:=fun x:Nat=>x == 0) (v:=d) hg (by simp) (by simp;omega)
     simp only [List.length_append,List.length_singleton]
     omega
   · rw [if_neg hc]
     exact bfsRow_cnt (n:=n) hd l _ _ (fun x hx=>hl x (List.mem_cons_of_mem _ hx))
theorem BI.runs {W Hh n:Nat} {g:List Int} {h:Int} {b:Nat} (t:Ter W Hh n):∀ (m:Nat) {lev q:List Nat},q.length+2*lev.countP (fun x=>x == 0)=m→BI W n g h b lev q→∃ k L,Bfs W n g h L k lev q∧Dist W n g h b L:=by
 intro m
 induction m using Nat.strongRecOn with
 | ind m ih=>
   intro lev q hm i
   cases q with
   | nil=>
     exact ⟨0,lev,.done,i.len,i.one,i.low,i.prev,fun c hc h0 d hd hg=>i.next c hc h0 List.not_mem_nil d hd hg,fun c=>by have:=i.bnd c;omega⟩
   | cons a q=>
     have ha:a<n:=i.lt a (List.mem_cons_self ..)
     have hcn:=bfsRow_cnt (n:=n) (g:=g) (h:=h) (d:=lev.getD a 0+1) (by omega) (nb W n a) lev q (fun c hc=>by rw [i.len];exact nb_lt t ha hc)
     have hr:=bfsRow_spec (g:=g) (h:=h) (d:=lev.getD a 0+1) (by omega) (nb W n a) lev q (fun c hc=>by rw [i.len];exact nb_lt t ha hc)
     obtain ⟨x,hx1,_⟩:=hr.que
     have hq:q.length≤(bfsRow g h (lev.getD a 0+1) (nb W n a) (lev,q)).2.length:=by rw [hx1];simp
     simp only [List.length_cons] at hm
     obtain ⟨k,L,h1,h2⟩:=ih _ (by omega) rfl (i.round t)
     exact ⟨k+1,L,.next h1,h2⟩
theorem bfs_start {W Hh n:Nat} {g:List Int} {h:Int} {b:Nat} (t:Ter W Hh n) (hb:b<n) (hg:gr g b≤h):BI W n g h b ((List.replicate n 0).set b 1) [b]:=by
 have hgd:∀ c,((List.replicate n 0).set b 1).getD c 0=if b=c then 1 else 0:=fun c=>by
   rw [getD_set]
   by_cases h1:b=c
   · subst h1;simp [hb]
   · simp only [h1,false_and,if_false]
     rw [List.getD_eq_getElem?_getD,List.getElem?_replicate]
     split<;>simp
 have hcp:((List.replicate n 0).set b 1).countP (fun x=>x == 0)+1=n:=by
   rw [countP_drop (u:=0) (by rw [List.getElem?_replicate];simp [hb]) (by simp) (by simp)]
   simp [List.countP_replicate]
 refine ⟨⟨by simp,fun c hc=>?_,?_,fun c=>?_⟩,fun c hc=>?_,fun c hc=>?_,fun c hc h0=>?_,fun c hc h1=>?_,fun c hc h0 hq=>?_,⟨1,[b],[],fun c=>?_,rfl,fun c hc=>?_,fun c hc=>(List.not_mem_nil hc).elim⟩⟩
 · obtain rfl:c=b:=by simpa using hc
   exact hb
 · simp only [List.length_singleton];omega
 · rw [hgd];split<;>omega
 · obtain rfl:c=b:=by simpa using hc
   rw [hgd];simp
 · rw [hgd]
   by_cases h1:b=c
   · subst h1;simp
   · rw [if_neg h1];constructor
     · intro h2;omega
     · intro h2;exact (h1 h2.symm).elim
 · rw [hgd] at h0
   split at h0
   · rename_i h1;subst h1;exact hg
   · omega
 · rw [hgd] at h1
   split at h1<;>omega
 · rw [hgd] at h0
   split at h0
   · rename_i h1;subst h1;simp at hq
   · omega
 · rw [hgd];split<;>omega
 · obtain rfl:c=b:=by simpa using hc
   rw [hgd];simp
theorem Dist.reach {W Hh n:Nat} {g:List Int} {h:Int} {b:Nat} {L:List Nat} (t:Ter W Hh n) (d:Dist W n g h b L) (hb:b<n) {c:Nat} (k:Rch W n g h b c):0<L.getD c 0:=by
 induction k with
 | refl _=>have:=(d.one b hb).2 rfl;omega
 | step k hc hg ih=>exact (d.next _ (k.lt t hb) ih _ hc hg).1
theorem Dist.back {W Hh n:Nat} {g:List Int} {h:Int} {b:Nat} {L:List Nat} (t:Ter W Hh n) (d:Dist W n g h b L) (hg:gr g b≤h):∀ (m c:Nat),c<n→L.getD c 0=m+1→Rch W n g h b c
 | 0,c,hc,hm=>by rw [(d.one c hc).1 hm];exact .refl hg
 | m+1,c,hc,hm=>by
   obtain ⟨e,h1,h2⟩:=d.prev c hc (by omega)
   have he:=nb_lt t hc h1
   exact .step (Dist.back t d hg m e he (by omega)) (nb_symm t hc h1) (d.low c hc (by omega))
/-! The way -/
def nxt (W n:Nat) (L:List Nat) (a:Nat):Option Nat:=(nb W n a).find? fun c=>L.getD c 0+1 == L.getD a 0
inductive Pth (W n:Nat) (L:List Nat) (b:Nat):Nat→List Nat→Prop
 | done:Pth W n L b b [b]
 | next {a c:Nat} {l:List Nat} (hne:a≠b) (hn:nxt W n L a=some c) (k:Pth W n L b c l):Pth W n L b a (a::l)
theorem Dist.nxt {W n:Nat} {g:List Int} {h:Int} {a b:Nat} {L:List Nat} (d:Dist W n g h b L) (ha:a<n) (h0:0<L.getD a 0) (hne:a≠b):∃ c,nxt W n L a=some c∧c∈nb W n a∧L.getD c 0+1=L.getD a 0:=by
 have h1:1<L.getD a 0:=by
   have:L.getD a 0≠1:=fun e=>hne ((d.one a ha).1 e)
   omega
 obtain ⟨c,h2,h3⟩:=d.prev a ha h1
 generalize hf:Go.Proofs.YtcjkndjjbjoehaaGreat.nxt W n L a=o
 cases o with
 | none=>
   have:=List.find?_eq_none.1 hf c h2
   exact absurd (beq_iff_eq.2 h3) this
 | some x=>
   have h4:=List.find?_some hf
   exact ⟨x,rfl,List.mem_of_find?_eq_some hf,by simpa using h4⟩
theorem Dist.path {W Hh n:Nat} {g:List Int} {h:Int} {b:Nat} {L:List Nat} (t:Ter W Hh n) (d:Dist W n g h b L):∀ (m a:Nat),a<n→L.getD a 0=m+1→∃ l,Pth W n L b a l∧l.length=m+1
 | 0,a,ha,hm=>by rw [(d.one a ha).1 hm];exact ⟨[b],.done,rfl⟩
 | m+1,a,ha,hm=>by
   have hne:a≠b:=fun e=>by have:=(d.one a ha).2 e;omega
   obtain ⟨c,h1,h2,h3⟩:=d.nxt ha (by omega) hne
   obtain ⟨l,h4,h5⟩:=Dist.path t d m c (nb_lt t ha h2) (by omega)
   exact ⟨a::l,.next hne h1 h4,by simp [h5]⟩
theorem Pth.uniq {W n:Nat} {L:List Nat} {a b:Nat} {l l':List Nat} (x:Pth W n L b a l) (y:Pth W n L b a l'):l=l':=by
 induction x generalizing l' with
 | done=>cases y with
   | done=>rfl
   | next hne _ _=>exact (hne rfl).elim
 | next hne hn k ih=>cases y with
   | done=>exact (hne rfl).elim
   | next _ hn' k'=>
     rw [hn] at hn'
     obtain rfl:=Option.some.inj hn'
     rw [ih k']
theorem Bfs.uniq {W n:Nat} {g:List Int} {h:Int} {L L':List Nat} {k k':Nat} {lev q:List Nat} (x:Bfs W n g h L k lev q) (y:Bfs W n g h L' k' lev q):L=L':=by
 induction x generalizing k' with
 | done=>cases y;rfl
 | next s ih=>cases y with
   | next s'=>exact ih s'
section
variable {c:Cx} {F:Fr} {H:Hp} {d:Option Tmp} {ty t t':TypeId} {pos:String} {af:Array Edge} {g:Option (Nat×Bool)} {x y:Operand} {k:IntKind} {m n:Int}
theorem oq_leqT (hx:ev F x=some (.int k m)) (hy:ev F y=some (.int k n)) (h:m≤n):OQ c ⟨d,.binOp .leq t x y t',ty,pos,af,g⟩ F H (.bool true):=(oq_leq hx hy).as (by simp [h])
theorem oq_leqF (hx:ev F x=some (.int k m)) (hy:ev F y=some (.int k n)) (h:¬ m≤n):OQ c ⟨d,.binOp .leq t x y t',ty,pos,af,g⟩ F H (.bool false):=(oq_leq hx hy).as (by simp [h])
theorem oq_lssT (hx:ev F x=some (.int k m)) (hy:ev F y=some (.int k n)) (h:m<n):OQ c ⟨d,.binOp .lss t x y t',ty,pos,af,g⟩ F H (.bool true):=(oq_lss hx hy).as (by simp [h])
theorem oq_lssF (hx:ev F x=some (.int k m)) (hy:ev F y=some (.int k n)) (h:¬ m<n):OQ c ⟨d,.binOp .lss t x y t',ty,pos,af,g⟩ F H (.bool false):=(oq_lss hx hy).as (by simp [h])
theorem oq_gtrT (hx:ev F x=some (.int k m)) (hy:ev F y=some (.int k n)) (h:n<m):OQ c ⟨d,.binOp .gtr t x y t',ty,pos,af,g⟩ F H (.bool true):=(oq_gtr hx hy).as (by simp [h])
theorem oq_gtrF (hx:ev F x=some (.int k m)) (hy:ev F y=some (.int k n)) (h:¬ n<m):OQ c ⟨d,.binOp .gtr t x y t',ty,pos,af,g⟩ F H (.bool false):=(oq_gtr hx hy).as (by simp [h])
theorem oq_geqT (hx:ev F x=some (.int k m)) (hy:ev F y=some (.int k n)) (h:n≤m):OQ c ⟨d,.binOp .geq t x y t',ty,pos,af,g⟩ F H (.bool true):=(oq_geq hx hy).as (by simp [h])
theorem oq_geqF (hx:ev F x=some (.int k m)) (hy:ev F y=some (.int k n)) (h:¬ n≤m):OQ c ⟨d,.binOp .geq t x y t',ty,pos,af,g⟩ F H (.bool false):=(oq_geq hx hy).as (by simp [h])
theorem oq_eqlT (hx:ev F x=some (.int k m)) (hy:ev F y=some (.int k n)) (h:m=n):OQ c ⟨d,.binOp .eql t x y t',ty,pos,af,g⟩ F H (.bool true):=(oq_eql hx hy).as (by simp [h])
theorem oq_eqlF (hx:ev F x=some (.int k m)) (hy:ev F y=some (.int k n)) (h:¬ m=n):OQ c ⟨d,.binOp .eql t x y t',ty,pos,af,g⟩ F H (.bool false):=(oq_eql hx hy).as (by simp [h])
theorem oq_neqT (hx:ev F x=some (.int k m)) (hy:ev F y=some (.int k n)) (h:¬ m=n):OQ c ⟨d,.binOp .neq t x y t',ty,pos,af,g⟩ F H (.bool true):=(oq_neq hx hy).as (by simp [h])
theorem oq_neqF (hx:ev F x=some (.int k m)) (hy:ev F y=some (.int k n)) (h:m=n):OQ c ⟨d,.binOp .neq t x y t',ty,pos,af,g⟩ F H (.bool false):=(oq_neq hx hy).as (by simp [h])
end
theorem oq_mulE {c:Cx} {F:Fr} {H:Hp} {d:Option Tmp} {ty t t':TypeId} {pos:String} {af:Array Edge} {g:Option (Nat×Bool)} {x y:Operand} {m n k:Int} (hx:ev F x=some (.int .i64 m)) (hy:ev F y=some (.int .i64 n)) (e:m*n=k) (hk : -9223372036854775808≤k∧k≤9223372036854775807):OQ c ⟨d,.binOp .mul t x y t',ty,pos,af,g⟩ F H (.int .i64 k):=by
 subst e
 exact oq_mul hx hy ⟨hk.1,hk.2⟩
end Go.Proofs.YtcjkndjjbjoehaaGreat
namespace Go.Proofs.YtcjkndjjbjoehaaGreat
open Go.RowKit
theorem SAnyI_lexE {P:Program} {ops:Array Oper} {cov:Array Bool} {Q:Act→World→Prop} {I:World→Prop} (hU:Up I) (hs:Region.noSelect ops=true) (n:Nat):∀ (l:List Nat) (listed:Array Bool) (a:Act) (w0:World),I w0→lexOk ops cov l listed=true→Down ops listed →
   wpGI P ops I (fun a'=>∀ w,Ext w0 w→SAnyI P ops cov I Q n (listedBy l listed) a' w) l a→∀ w,Ext w0 w→SAnyI P ops cov I Q (n+l.length) listed a w
 | [],_,_,_,_,_,_,h=>h
 | i::l,listed,a,w0,hw0,hB,hd,h=>by
   simp only [lexOk,Bool.and_eq_true] at hB
   obtain ⟨⟨⟨hr,hf⟩,hc⟩,hB'⟩:=hB
   have hr':i∈Region.ready .any ops listed:=by simpa using hr
   unfold wpGI at h
   cases ho:ops[i]? with
   | none=>simp only [ho] at h
   | some o=>
     simp only [ho] at h
     by_cases hw:Region.wanted o (yielded ops a.tmps)=true
     · simp only [hw,if_true] at h
       obtain ⟨v,hv,hK⟩:=h
       exact SAnyI_first hU ho (Region.noSelect_spec hs) hc (n+l.length) listed a w0 hw0 hd (Region.free_spec ho hf) hr' (.inl ⟨hw,hv⟩) (SAnyI_lexE hU hs n l _ _ w0 hw0 hB' (hd.set hr') hK)
     · simp only [hw] at h
       exact SAnyI_first hU ho (Region.noSelect_spec hs) hc (n+l.length) listed a w0 hw0 hd (Region.free_spec ho hf) hr' (.inr ⟨by simpa using hw,rfl⟩) (SAnyI_lexE hU hs n l _ _ w0 hw0 hB' (hd.set hr') h)
theorem t_mixZ {c:Cx} {Q:QS} {F:Fr} {H:Hp} {id:Nat} {l ql:List Oper} (q:List Nat) (n:Nat) (hm:c.P.follows .mixedOrders=true) (hB:(Region.noSelect ⟨l⟩ && (n+q.length == (Array.mk l).size) && lexOk ⟨l⟩ #[] q (Array.replicate (Array.mk l).size false))=true) (hq:pickOps l q=some ql)
   (h:GX c ⟨l⟩ ql (fun F'=>AL c ⟨l⟩ #[] [] n (listedBy q (Array.replicate (Array.mk l).size false)) (fun F H=>Q .normal F H) F' H) F []):T c (WS.own c.P) (.region id ⟨l⟩ true) Q F H:=fun D a w ha hw=>by
 show (Code.region id ⟨l⟩ true).wp c.P (cv c Q) a w
 simp only [Bool.and_eq_true,beq_iff_eq] at hB
 obtain ⟨⟨hs,hn⟩,hl⟩:=hB
 have hI:Has c.w0 ⟨c.M,D⟩ [] w:=hw.sub HpSub.nil
 refine wp_region_any hm (wpAny_of_SAnyI (Q:=fun a w=>∃ D F H,Q .normal F H∧Frm D c.N F a∧Has c.w0 ⟨c.M,D⟩ H w) (I:=Has c.w0 ⟨c.M,D⟩ []) (cov:=#[]) (fun _ _ h=>h) _ _ _ _ ?_)
 rw [← hn]
 have key:=SAnyI_lexE (P:=c.P) (cov:=#[]) (Q:=fun a w=>∃ D F H,Q .normal F H∧Frm D c.N F a∧Has c.w0 ⟨c.M,D⟩ H w) (Has.up (M:=⟨c.M,D⟩)) hs n q (Array.replicate (Array.mk l).size false) a w hI hl (Down.none _)
   (wpGI_mono (fun a' ⟨F',h1,h2⟩ w' hw'=>h1 D a' w' h2 (hw.grow hw')) q a (h q (pickOps_spec hq) D a ha)) w.drew (Ext.refl w).drew
 exact hn.symm ▸ key
end Go.Proofs.YtcjkndjjbjoehaaGreat
namespace Go.Proofs.YtcjkndjjbjoehaaGreat
open Go.RowKit
attribute [local irreducible] OQ OS OX Rd T TL GX GL AL AI RV wpG SAny Calls
def sI (l:List Int):Option (Nat×Nat)→Value
 | none=>.slice none 0 0
 | some (b,cap)=>.slice (some ⟨b,0,none⟩) l.length cap
def hI (l:List Int):Option (Nat×Nat)→Hp
 | none=>[]
 | some (b,cap)=>[(b,l.map iv,some (3,1,cap))]
def cI (l:List Nat):List Int:=l.map fun c:Nat=>(c:Int)
theorem cI_len (l:List Nat):(cI l).length=l.length:=by simp [cI]
theorem iv_len (l:List Int):(l.map iv).length=l.length*1:=by simp
def LsI (l:List Int) (v:Value) (H:Hp):Prop:=∃ o,(o=none→l=[])∧v=sI l o∧H=hI l o
def p1 (W a:Nat):List Nat:=if W≤a then [a-W] else []
def p2 (W a:Nat):List Nat:=if 0<a % W then [a-1] else []
def p3 (W a:Nat):List Nat:=if a % W+1<W then [a+1] else []
def p4 (W n a:Nat):List Nat:=if a+W<n then [a+W] else []
def preN (W n a:Nat):Nat→List Nat
 | 0=>[]
 | 1=>p1 W a
 | 2=>p1 W a++p2 W a
 | 3=>p1 W a++p2 W a++p3 W a
 | _=>p1 W a++p2 W a++p3 W a++p4 W n a
theorem preN_four (W n a:Nat):preN W n a 4=nb W n a:=by simp [preN,nb,p1,p2,p3,p4]
theorem sI_snoc (l:List Nat) (z b cap:Nat):sI (cI (l++[z])) (some (b,cap))=.slice (some ⟨b,0,none⟩) ((cI l).length+1) cap:=by simp [sI,cI]
theorem hI_snoc (l:List Nat) (z b cap:Nat):hI (cI (l++[z])) (some (b,cap))=[(b,(cI l).map iv++[.int .i64 (z:Nat)],some (3,1,cap))]:=by simp [hI,cI,iv]
theorem preN_len (W n a:Nat) (j:Nat):(preN W n a j).length≤4:=by
 unfold preN
 split<;>simp only [List.length_append,List.length_nil,p1,p2,p3,p4]<;>repeat' split
 all_goals simp
theorem tmod_nat {m n:Int} {a b:Nat} (e:m=(a:Int)) (e2:n=(b:Int)):m.tmod n=((a % b:Nat):Int):=by
 rw [e,e2,Int.ofNat_tmod]
section
variable {c:Cx} {F:Fr} {H:Hp} {d:Option Tmp} {ty t t':TypeId} {pos:String} {af:Array Edge} {g:Option (Nat×Bool)} {x y:Operand} {m n k:Int}
theorem oq_remE (hx:ev F x=some (.int .i64 m)) (hy:ev F y=some (.int .i64 n)) (e:m.tmod n=k) (h:n≠0):OQ c ⟨d,.binOp .rem t x y t',ty,pos,af,g⟩ F H (.int .i64 k):=
 (oq_rem hx hy h).as (by rw [e])
end
theorem around6_calls (A:Option Addr) (cp W Hh n a:Nat) (t:Ter W Hh n) (ha:a<n) (w:World):Calls Tryz.prog 83 #[.agg #[.int .i64 ((W:Nat):Int),.int .i64 ((Hh:Nat):Int),.slice A n cp],.int .i64 ((a:Nat):Int)] w fun e w'=>∃ v H',e=.returned v∧LsI (cI (nb W n a)) v H'∧Has w ⟨[],[]⟩ H' w':=by
 have w1:=t.w1
 have w24:=t.w24
 have n576:=t.n576
 have haW:0<a % W→0<a:=fun h=>by
   rcases Nat.eq_zero_or_pos a with e|e
   · subst e;simp at h
   · exact e
 have hmW:=Nat.mod_lt a (show 0<W by omega)
 refine enterF (c:=cx w 61) Tryz.func83 rfl rfl rfl rfl ?_
 refine t_cut (ι:=Nat) (fun b2=>[(1,.int .i64 ((a:Nat):Int)),(2,.pointer (some ⟨b2,0,none⟩))]) (fun b2=>[(b2,[.int .i64 ((W:Nat):Int),.int .i64 ((Hh:Nat):Int),.slice A n cp],some (66,3,1))]) (fun _=>True) ?_ ?_
 · ((all_goals refine gqD0 ?_);(all_goals constructor);(any_goals exact trivial);all_goals intros)
   all_goals exact ⟨rfl,_,trivial,by (repeat first|exact FrSub.nil|(apply FrSub.cons;exact rfl)),by (repeat (first|exact HpSub.refl _|(apply HpSub.consE;(repeat first|exact P0|apply P1);exact rfl)|exact HpSub.nil))⟩
 rintro b2 -
 try dsimp only
 refine t_cut (ι:=Unit) (fun _=>[(1,.int .i64 ((a:Nat):Int)),(2,.pointer (some ⟨b2,0,none⟩)),(5,.int .i64 ((a % W:Nat):Int))]) (fun _=>[(b2,[.int .i64 ((W:Nat):Int),.int .i64 ((Hh:Nat):Int),.slice A n cp],some (66,3,1))]) (fun _=>True) ?_ ?_
 · ((all_goals refine gqD0 ?_);(all_goals constructor);(any_goals exact trivial);all_goals intros)
   all_goals exact ⟨rfl,(),trivial,by (repeat first|exact FrSub.nil|(apply FrSub.cons;exact rfl)),by (repeat (first|exact HpSub.refl _|(apply HpSub.consE;(repeat first|exact P0|apply P1);exact rfl)|exact HpSub.nil))⟩
 rintro ⟨⟩ -
 try dsimp only
 refine t_cut (ι:=Unit) (fun _=>[(1,.int .i64 ((a:Nat):Int)),(2,.pointer (some ⟨b2,0,none⟩)),(5,.int .i64 ((a % W:Nat):Int)),(6,.slice none 0 0)]) (fun _=>[(b2,[.int .i64 ((W:Nat):Int),.int .i64 ((Hh:Nat):Int),.slice A n cp],some (66,3,1))]) (fun _=>True) ?_ ?_
 · ((all_goals refine gqD0 ?_);(all_goals constructor);(any_goals exact trivial);all_goals intros)
   all_goals exact ⟨rfl,(),trivial,by (repeat first|exact FrSub.nil|(apply FrSub.cons;exact rfl)),by (repeat (first|exact HpSub.refl _|(apply HpSub.consE;(repeat first|exact P0|apply P1);exact rfl)|exact HpSub.nil))⟩
 rintro ⟨⟩ -
 try dsimp only
 refine t_cut (ι:=Option (Nat×Nat)) (fun o=>[(6,sI (cI (preN W n a 4)) o)]) (fun o=>hI (cI (preN W n a 4)) o) (fun o=>o=none→preN W n a 4=[]) ?_ ?_
 · refine t_cut (ι:=Unit) (fun _=>[(6,.slice none 0 0),(48,.agg #[.int .i64 ((a:Int)-(W:Int)),.bool (decide ((W:Int)≤(a:Int))),.int .i64 ((a:Int)-1),.bool (decide (0<((a % W:Nat):Int))),.int .i64 ((a:Int)+1),.bool (decide (((a % W:Nat):Int)+1<(W:Int))),.int .i64 ((a:Int)+(W:Int)),.bool (decide ((a:Int)+(W:Int)<(n:Int)))]),(49,.int .i64 0)]) (fun _=>[]) (fun _=>True) ?_ ?_
   · ((all_goals refine gqD0 ?_);(all_goals constructor);(any_goals exact trivial);all_goals intros)
     all_goals exact ⟨rfl,(),trivial,by (repeat first|exact FrSub.nil|(apply FrSub.cons;exact rfl)),by (repeat (first|exact HpSub.refl _|(apply HpSub.consE;(repeat first|exact P0|apply P1);exact rfl)|exact HpSub.nil))⟩
   rintro ⟨⟩ -
   try dsimp only
   ((all_goals refine gqD0 ?_);(all_goals constructor);(any_goals exact trivial);all_goals intros)
   apply t_loopK (ι:=Nat×Option (Nat×Nat)) [4,48,60] (fun z=>[(49,.int .i64 ((z.1:Nat):Int)),(6,sI (cI (preN W n a z.1)) z.2)]) (fun z=>hI (cI (preN W n a z.1)) z.2) (fun z=>z.1≤4∧(z.2=none→preN W n a z.1=[])) (fun z=>4-z.1) ((0,none))
   (repeat (first|exact KeepF.nil|(apply KeepF.cons;exact rfl)|apply KeepF.skip))
   (repeat first|exact FrSub.nil|(apply FrSub.cons;exact rfl))
   (repeat (first|exact HpSub.refl _|(apply HpSub.consE;(repeat first|exact P0|apply P1);exact rfl)|exact HpSub.nil))
   · exact ⟨Nat.zero_le _,fun _=>rfl⟩
   rintro ⟨j,o⟩ ⟨hj,ho⟩
   simp only at hj ho
   try dsimp only
   rcases (by omega:j=0∨j=1∨j=2∨j=3∨j=4) with rfl|rfl|rfl|rfl|rfl
   · by_cases hc:W≤a
     · have hpre:preN W n a 1=preN W n a 0++[a-W]:=by simp [preN,p1,p2,p3,p4,hc]
       have hl4:=preN_len W n a 0
       rw [← cI_len] at hl4
       generalize preN W n a 0=l at ho hl4 hpre ⊢
       have hzz:((a-W:Nat):Int)=(a:Int)-(W:Int):=by omega
       rcases o with _|⟨bo,co⟩
       · obtain rfl:=ho rfl
         ((all_goals refine gqD0 ?_);(all_goals constructor);(any_goals exact trivial);all_goals intros)
         all_goals (rename_i bN cN;refine ⟨(1,some (bN,cN)),⟨(by simp only;omega),fun h=>by cases h⟩,(by simp only;omega),?_,?_⟩<;>(try simp only [hpre,sI_snoc,hI_snoc,hzz])<;>(repeat' (first|exact FrSub.nil|(apply FrSub.cons;exact rfl)|exact HpSub.refl _|(apply HpSub.consE;(repeat first|exact P0|apply P1);first|exact rfl|(simp [iv,cI];done))|apply HpSub.skipX)))
       · ((all_goals refine gqD0 ?_);(all_goals constructor);(any_goals exact trivial);all_goals intros)
         all_goals (rename_i bN cN;refine ⟨(1,some (bN,cN)),⟨(by simp only;omega),fun h=>by cases h⟩,(by simp only;omega),?_,?_⟩<;>(try simp only [hpre,sI_snoc,hI_snoc,hzz])<;>(repeat' (first|exact FrSub.nil|(apply FrSub.cons;exact rfl)|exact HpSub.refl _|(apply HpSub.consE;(repeat first|exact P0|apply P1);first|exact rfl|(simp [iv,cI];done))|apply HpSub.skipX)))
     · have hpre:preN W n a 1=preN W n a 0:=by simp [preN,p1,p2,p3,p4,hc]
       ((all_goals refine gqD0 ?_);(all_goals constructor);(any_goals exact trivial);all_goals intros)
       all_goals (refine ⟨(1,o),⟨(by simp only;omega),fun h=>by rw [hpre];exact ho h⟩,(by simp only;omega),?_,?_⟩<;>(try simp only [hpre])<;>(repeat' (first|exact FrSub.nil|(apply FrSub.cons;exact rfl)|exact HpSub.refl _|apply HpSub.skipX)))
   · by_cases hc:0<a % W
     · have hpre:preN W n a 2=preN W n a 1++[a-1]:=by simp [preN,p1,p2,p3,p4,hc]
       have hl4:=preN_len W n a 1
       rw [← cI_len] at hl4
       generalize preN W n a 1=l at ho hl4 hpre ⊢
       have hzz:((a-1:Nat):Int)=(a:Int)-1:=by omega
       rcases o with _|⟨bo,co⟩
       · obtain rfl:=ho rfl
         ((all_goals refine gqD0 ?_);(all_goals constructor);(any_goals exact trivial);all_goals intros)
         all_goals (rename_i bN cN;refine ⟨(2,some (bN,cN)),⟨(by simp only;omega),fun h=>by cases h⟩,(by simp only;omega),?_,?_⟩<;>(try simp only [hpre,sI_snoc,hI_snoc,hzz])<;>(repeat' (first|exact FrSub.nil|(apply FrSub.cons;exact rfl)|exact HpSub.refl _|(apply HpSub.consE;(repeat first|exact P0|apply P1);first|exact rfl|(simp [iv,cI];done))|apply HpSub.skipX)))
       · ((all_goals refine gqD0 ?_);(all_goals constructor);(any_goals exact trivial);all_goals intros)
         all_goals (rename_i bN cN;refine ⟨(2,some (bN,cN)),⟨(by simp only;omega),fun h=>by cases h⟩,(by simp only;omega),?_,?_⟩<;>(try simp only [hpre,sI_snoc,hI_snoc,hzz])<;>(repeat' (first|exact FrSub.nil|(apply FrSub.cons;exact rfl)|exact HpSub.refl _|(apply HpSub.consE;(repeat first|exact P0|apply P1);first|exact rfl|(simp [iv,cI];done))|apply HpSub.skipX)))
     · have hpre:preN W n a 2=preN W n a 1:=by simp [preN,p1,p2,p3,p4,hc]
       ((all_goals refine gqD0 ?_);(all_goals constructor);(any_goals exact trivial);all_goals intros)
       all_goals (refine ⟨(2,o),⟨(by simp only;omega),fun h=>by rw [hpre];exact ho h⟩,(by simp only;omega),?_,?_⟩<;>(try simp only [hpre])<;>(repeat' (first|exact FrSub.nil|(apply FrSub.cons;exact rfl)|exact HpSub.refl _|apply HpSub.skipX)))
   · by_cases hc:a % W+1<W
     · have hpre:preN W n a 3=preN W n a 2++[a+1]:=by simp [preN,p1,p2,p3,p4,hc]
       have hl4:=preN_len W n a 2
       rw [← cI_len] at hl4
       generalize preN W n a 2=l at ho hl4 hpre ⊢
       have hzz:((a+1:Nat):Int)=(a:Int)+1:=by omega
       rcases o with _|⟨bo,co⟩
       · obtain rfl:=ho rfl
         ((all_goals refine gqD0 ?_);(all_goals constructor);(any_goals exact trivial);all_goals intros)
         all_goals (rename_i bN cN;refine ⟨(3,some (bN,cN)),⟨(by simp only;omega),fun h=>by cases h⟩,(by simp only;omega),?_,?_⟩<;>(try simp only [hpre,sI_snoc,hI_snoc,hzz])<;>(repeat' (first|exact FrSub.nil|(apply FrSub.cons;exact rfl)|exact HpSub.refl _|(apply HpSub.consE;(repeat first|exact P0|apply P1);first|exact rfl|(simp [iv,cI];done))|apply HpSub.skipX)))
       · ((all_goals refine gqD0 ?_);(all_goals constructor);(any_goals exact trivial);all_goals intros)
         all_goals (rename_i bN cN;refine ⟨(3,some (bN,cN)),⟨(by simp only;omega),fun h=>by cases h⟩,(by simp only;omega),?_,?_⟩<;>(try simp only [hpre,sI_snoc,hI_snoc,hzz])<;>(repeat' (first|exact FrSub.nil|(apply FrSub.cons;exact rfl)|exact HpSub.refl _|(apply HpSub.consE;(repeat first|exact P0|apply P1);first|exact rfl|(simp [iv,cI];done))|apply HpSub.skipX)))
     · have hpre:preN W n a 3=preN W n a 2:=by simp [preN,p1,p2,p3,p4,hc]
       ((all_goals refine gqD0 ?_);(all_goals constructor);(any_goals exact trivial);all_goals intros)
       all_goals (refine ⟨(3,o),⟨(by simp only;omega),fun h=>by rw [hpre];exact ho h⟩,(by simp only;omega),?_,?_⟩<;>(try simp only [hpre])<;>(repeat' (first|exact FrSub.nil|(apply FrSub.cons;exact rfl)|exact HpSub.refl _|apply HpSub.skipX)))
   · by_cases hc:a+W<n
     · have hpre:preN W n a 4=preN W n a 3++[a+W]:=by simp [preN,p1,p2,p3,p4,hc]
       have hl4:=preN_len W n a 3
       rw [← cI_len] at hl4
       generalize preN W n a 3=l at ho hl4 hpre ⊢
       have hzz:((a+W:Nat):Int)=(a:Int)+(W:Int):=by omega
       rcases o with _|⟨bo,co⟩
       · obtain rfl:=ho rfl
         ((all_goals refine gqD0 ?_);(all_goals constructor);(any_goals exact trivial);all_goals intros)
         all_goals (rename_i bN cN;refine ⟨(4,some (bN,cN)),⟨(by simp only;omega),fun h=>by cases h⟩,(by simp only;omega),?_,?_⟩<;>(try simp only [hpre,sI_snoc,hI_snoc,hzz])<;>(repeat' (first|exact FrSub.nil|(apply FrSub.cons;exact rfl)|exact HpSub.refl _|(apply HpSub.consE;(repeat first|exact P0|apply P1);first|exact rfl|(simp [iv,cI];done))|apply HpSub.skipX)))
       · ((all_goals refine gqD0 ?_);(all_goals constructor);(any_goals exact trivial);all_goals intros)
         all_goals (rename_i bN cN;refine ⟨(4,some (bN,cN)),⟨(by simp only;omega),fun h=>by cases h⟩,(by simp only;omega),?_,?_⟩<;>(try simp only [hpre,sI_snoc,hI_snoc,hzz])<;>(repeat' (first|exact FrSub.nil|(apply FrSub.cons;exact rfl)|exact HpSub.refl _|(apply HpSub.consE;(repeat first|exact P0|apply P1);first|exact rfl|(simp [iv,cI];done))|apply HpSub.skipX)))
     · have hpre:preN W n a 4=preN W n a 3:=by simp [preN,p1,p2,p3,p4,hc]
       ((all_goals refine gqD0 ?_);(all_goals constructor);(any_goals exact trivial);all_goals intros)
       all_goals (refine ⟨(4,o),⟨(by simp only;omega),fun h=>by rw [hpre];exact ho h⟩,(by simp only;omega),?_,?_⟩<;>(try simp only [hpre])<;>(repeat' (first|exact FrSub.nil|(apply FrSub.cons;exact rfl)|exact HpSub.refl _|apply HpSub.skipX)))
   · ((all_goals refine gqD0 ?_);(all_goals constructor);(any_goals exact trivial);all_goals intros)
     all_goals (refine ⟨rfl,o,ho,?_,?_⟩<;>(try simp only [List.append_nil])<;>(repeat' (first|exact FrSub.nil|(apply FrSub.cons;exact rfl)|exact HpSub.refl _)))
 rintro o ho
 try dsimp only
 ((all_goals refine gqD0 ?_);(all_goals constructor);(any_goals exact trivial);all_goals intros)
 all_goals (rw [preN_four];exact ⟨_,⟨o,(fun h=>by rw [← preN_four,ho h];rfl),rfl,rfl⟩,HpSub.refl _⟩)
def terB (W Hh:Int) (g:List Int):Bool:=allFrom 1 24 [W,Hh] && decide ((g.length:Int)=W*Hh) && allFrom (-500) 9000 g
theorem allFrom_two {lo hi x y:Int}:allFrom lo hi [x,y]=true↔lo≤x∧x≤hi∧lo≤y∧y≤hi:=by
 simp [allFrom];omega
theorem terB_iff {W Hh:Int} {g:List Int}:terB W Hh g=true↔(1≤W∧W≤24∧1≤Hh∧Hh≤24)∧(g.length:Int)=W*Hh∧∀ x∈g,-500≤x∧x≤9000:=by
 unfold terB
 rw [Bool.and_eq_true,Bool.and_eq_true,allFrom_two,decide_eq_true_eq]
 unfold allFrom
 rw [List.all_eq_true]
 constructor
 · rintro ⟨⟨h1,h2⟩,h3⟩
   exact ⟨h1,h2,fun x hx=>by simpa using h3 x hx⟩
 · rintro ⟨h1,h2,h3⟩
   exact ⟨⟨h1,h2⟩,fun x hx=>by simpa using h3 x hx⟩
theorem mul_24 {W Hh:Int} (h:1≤W∧W≤24∧1≤Hh∧Hh≤24):1≤W*Hh∧W*Hh≤576:=by
 obtain ⟨h1,h2,h3,h4⟩:=h
 have a:=Int.mul_le_mul h2 h4 (by omega) (by omega:(0:Int)≤24)
 have b:=Int.mul_le_mul h1 h3 (by omega) (by omega:(0:Int)≤W)
 omega
theorem checkTerrain_calls (A:Option Addr) (n cp:Nat) (W Hh:Int) (g:List Int) (w:World) (hr:RdS w 1 A n (g.map inCells)) (hn:n≤1000000) :
   Calls Tryz.prog 53 #[.agg #[.int .i64 W,.int .i64 Hh,.slice A n cp]] w fun e w'=>e=.returned (.int .i64 (if terB W Hh g then 0 else 60))∧Ext w w':=by
 have hl:g.length=n:=by simpa using hr.len
 have HW:=fun (b:Nat) (w1:World) (h:RdS w1 1 (some ⟨b,0,none⟩) 2 ([W,Hh].map inCells))=>rfrom_calls 1 24 (some ⟨b,0,none⟩) 2 2 [W,Hh] w1 h (by omega)
 have HG:=fun (w1:World) (h:RdS w1 1 A n (g.map inCells))=>rfrom_calls (-500) 9000 A n cp g w1 h (by omega)
 unfold terB
 cases h1:allFrom 1 24 [W,Hh] with
 | false=>
   rw [h1] at HW
   refine enterQ (c:=cx w 27) Tryz.func53 rfl rfl rfl rfl ?_
   ((all_goals refine gqD0 ?_);(all_goals constructor);(any_goals exact trivial);all_goals intros)
   all_goals rfl
 | true=>
 rw [h1] at HW
 have h24:=mul_24 (allFrom_two.1 h1)
 cases h3:allFrom (-500) 9000 g<;>rw [h3] at HG
 all_goals
   by_cases h2:(g.length:Int)=W*Hh
   all_goals
     refine enterQ (c:=cx w 27) Tryz.func53 rfl rfl rfl rfl ?_
     repeat' (first|((with_reducible apply oq_id);first|((with_reducible apply (oq_mulE (k:=W*Hh)));(iterate 3 exact rfl);omega)|((with_reducible apply oq_neqT);exact rfl;exact rfl;omega)|((with_reducible apply oq_neqF);exact rfl;exact rfl;omega)|(apply oq_fn;exact rfl;first|exact trivial|(and_intros<;>omega)|omega|skip)|((with_reducible apply oq_load);exact rfl;exact rfl)|((with_reducible apply oq_call (hc:=Tryz.call67));exact rfl;exact rfl;exact fun D w1 hw1=>HW _ w1 (int_rows (l:=[W,Hh]) rfl hw1 (by (repeat first|exact P0|apply P1))))|((with_reducible apply oq_call (hc:=Tryz.call67));exact rfl;exact rfl;exact fun D w1 hw1=>HG w1 (hr.ext hw1.ext.ext)))|((with_reducible apply tl_id);first|(with_reducible apply tl_nil)|((with_reducible apply u_q);(iterate 4 exact rfl))|((with_reducible apply u_s);(iterate 3 exact rfl))|((with_reducible apply u_skip);(iterate 3 exact rfl)))|((with_reducible apply os_id);first|((with_reducible apply os_x);exact rfl))|((with_reducible apply ox_id);first|((with_reducible apply ox_boxAgg);exact rfl;intro _)|((with_reducible apply ox_buildSlice1);(iterate 6 exact rfl);intro _))|((with_reducible apply rd_id);first|(apply Rd.own;(repeat first|exact P0|apply P1);exact rfl;done))|((with_reducible apply t_id);first|(with_reducible apply t_seq)|(apply t_region;kernel_rfl)|((with_reducible apply t_condT);exact rfl)|((with_reducible apply t_condF);exact rfl)|(with_reducible apply t_ret)|(with_reducible apply t_skip))|with_reducible apply q_thenN|with_reducible apply q_thenR|(with_reducible apply end_ret)|exact rvs_nil|(with_reducible apply rvs_cons)|((with_reducible apply rv_tmp);exact rfl))
     all_goals first|(simp [h2];rfl)|(simp [h2];done)
section
variable {w:World} {N:Nat} {F:Fr} {H:Hp} {M:List Nat} {d:Option Tmp} {ty t':TypeId} {pos:String} {af:Array Edge} {g:Option (Nat×Bool)} {x y:Operand} {a b a' b':Int} {q:Bool}
end
structure WOk (a b c d:Int):Prop where
 ab:a≤b
 cd:c≤d
 a2 : -2000≤a
 b2:b≤2000
 c2 : -2000≤c
 d2:d≤2000
section
variable {c:Cx} {F:Fr} {H:Hp} {d:Option Tmp} {ty t t':TypeId} {pos:String} {af:Array Edge} {g:Option (Nat×Bool)} {x y:Operand} {m n k:Int}
theorem oq_quoI (hx:ev F x=some (.int .i64 m)) (hy:ev F y=some (.int .i64 n)) (e:m.tdiv n=k∧n≠0∧-9223372036854775808≤k∧k≤9223372036854775807):OQ c ⟨d,.binOp .quo t x y t',ty,pos,af,g⟩ F H (.int .i64 k):=
 (oq_quo hx hy e.2.1 (by rw [e.1];exact ⟨e.2.2.1,e.2.2.2⟩)).as (by rw [e.1])
end
end Go.Proofs.YtcjkndjjbjoehaaGreat
namespace Go.Proofs.YtcjkndjjbjoehaaGreat
structure Lv where
 h:Int
 plo:Int
 phi:Int
 tlo:Int
 thi:Int
def Lv.press (x:Lv):Int×Int:=(x.plo,x.phi)
def Lv.temp (x:Lv):Int×Int:=(x.tlo,x.thi)
def Lv.put (x:Lv) (s:Int×Int):Lv:=⟨x.h,s.1,s.2,x.tlo,x.thi⟩
theorem all_range_no {n k:Nat} {p:Nat→Bool} (hk:k<n) (h:p k=false):(List.range n).all p=false:=by
 rw [Bool.eq_false_iff,Ne,List.all_eq_true]
 intro h2
 have:=h2 k (List.mem_range.2 hk)
 rw [h] at this
 cases this
theorem all_range_yes {n:Nat} {p:Nat→Bool} (h:∀ k,k<n→p k=true):(List.range n).all p=true:=
 List.all_eq_true.2 fun k hk=>h k (List.mem_range.1 hk)
structure Gl where
 h:Int
 xlo:Int
 xhi:Int
 ylo:Int
 yhi:Int
 gust:Int
def glCells (x:Gl):List Value:=[.int .i64 x.h,.int .i64 x.xlo,.int .i64 x.xhi,.int .i64 x.ylo,.int .i64 x.yhi,.int .i64 x.gust]
theorem gl_read {w:World} {A:Option Addr} {n:Nat} {l:List Gl} (h:RdS w 6 A n (l.map glCells)) {i:Nat} (hi:i<n) :
   ∃ b o x,A=some ⟨b,o,none⟩∧b<w.heap.size∧l[i]?=some x∧w.cell? ⟨b,o+i*6,none⟩=some (.int .i64 x.h)∧w.cell? ⟨b,o+i*6+1,none⟩=some (.int .i64 x.xlo)∧w.cell? ⟨b,o+i*6+2,none⟩=some (.int .i64 x.xhi) ∧
     w.cell? ⟨b,o+i*6+3,none⟩=some (.int .i64 x.ylo)∧w.cell? ⟨b,o+i*6+4,none⟩=some (.int .i64 x.yhi)∧w.cell? ⟨b,o+i*6+5,none⟩=some (.int .i64 x.gust):=by
 obtain ⟨b,o,cs,hA,hb,hx,_,hc⟩:=h.row hi
 simp only [List.getElem?_map,Option.map_eq_some_iff] at hx
 obtain ⟨x,hx,rfl⟩:=hx
 exact ⟨b,o,x,hA,hb,hx,hc 0 _ rfl,hc 1 _ rfl,hc 2 _ rfl,hc 3 _ rfl,hc 4 _ rfl,hc 5 _ rfl⟩
def galeOk (x:Gl) (y:Option Gl):Bool:=
 decide (-500≤x.h∧x.h≤9000) && ((match y with|some y=>decide (y.h<x.h)|none=>true) && (decide (0≤x.gust∧x.gust≤500) && (decide (x.xlo≤x.xhi∧-1000≤x.xlo∧x.xhi≤1000) && decide (x.ylo≤x.yhi∧-1000≤x.ylo∧x.yhi≤1000))))
def prevG (l:List Gl):Nat→Option Gl|0=>none|j+1=>l[j]?
def galeAt (l:List Gl) (i:Nat):Bool:=match l[i]? with|some x=>galeOk x (prevG l i)|none=>true
def windB (l:List Gl):Bool:=decide (1≤(l.length:Int)∧(l.length:Int)≤16) && (List.range l.length).all (galeAt l)
theorem galeAt_eq {l:List Gl} {i:Nat} {x:Gl} (h:l[i]?=some x):galeAt l i=galeOk x (prevG l i):=by unfold galeAt;rw [h]
theorem windB_no {l:List Gl} {k n:Nat} (hl:l.length=n) (hk:k<n) (h:galeAt l k=false):windB l=false:=by
 unfold windB
 rw [all_range_no (by simpa [hl] using hk) h,Bool.and_false]
theorem windB_short {l:List Gl} {n:Nat} (hl:l.length=n) (h:decide (1≤(n:Int)∧(n:Int)≤16)=false):windB l=false:=by
 unfold windB
 rw [hl,h,Bool.false_and]
theorem windB_yes {l:List Gl} {n:Nat} (hl:l.length=n) (h1:decide (1≤(n:Int)∧(n:Int)≤16)=true) (h:∀ j,j<n→galeAt l j=true):windB l=true:=by
 unfold windB
 rw [hl,h1,all_range_yes h,Bool.and_true]
structure Wnd (l:List Gl):Prop where
 n1:1≤l.length
 n16:l.length≤16
 ok:∀ x∈l,-500≤x.h∧x.h≤9000∧0≤x.gust∧x.gust≤500∧x.xlo≤x.xhi∧-1000≤x.xlo∧x.xhi≤1000∧x.ylo≤x.yhi∧-1000≤x.ylo∧x.yhi≤1000
 rise:∀ {i:Nat} {x y:Gl},l[i]?=some x→l[i+1]?=some y→x.h<y.h
theorem windB_iff (l:List Gl):windB l=true↔Wnd l:=by
 unfold windB
 simp only [Bool.and_eq_true,List.all_eq_true,List.mem_range,decide_eq_true_eq]
 constructor
 · rintro ⟨h1,h2⟩
   refine ⟨by omega,by omega,fun x hx=>?_,fun {i x y} hx hy=>?_⟩
   · obtain ⟨i,hi,rfl⟩:=List.getElem_of_mem hx
     have h3:=h2 i hi
     rw [galeAt_eq (List.getElem?_eq_getElem hi)] at h3
     unfold galeOk at h3
     simp only [Bool.and_eq_true,decide_eq_true_eq] at h3
     omega
   · have h3:=h2 (i+1) (List.getElem?_eq_some_iff.1 hy).1
     rw [galeAt_eq hy,show prevG l (i+1)=some x from hx] at h3
     unfold galeOk at h3
     simp only [Bool.and_eq_true,decide_eq_true_eq] at h3
     omega
 · rintro ⟨h1,h2,h3,h4⟩
   refine ⟨by omega,fun i hi=>?_⟩
   have hx:l[i]?=some l[i]:=List.getElem?_eq_getElem hi
   have hb:=h3 _ (List.mem_of_getElem? hx)
   rw [galeAt_eq hx]
   cases i with
   | zero=>
     unfold galeOk prevG
     simp only [Bool.and_eq_true,decide_eq_true_eq,true_and];omega
   | succ j=>
     have hy:l[j]?=some l[j]:=List.getElem?_eq_getElem (by omega)
     have:=h4 hy hx
     rw [show prevG l (j+1)=some l[j] from hy]
     unfold galeOk
     simp only [Bool.and_eq_true,decide_eq_true_eq];omega
structure Kn where
 x:Int
 lo:Int
 hi:Int
def lineV (a b:Kn) (x:Int):Int×Int:=(a.lo+(x-a.x)*(b.lo-a.lo) / (b.x-a.x),a.hi-(x-a.x)*(a.hi-b.hi) / (b.x-a.x))
def atV:List Kn→Int→Int×Int
 | a::b::r,x=>if x≤b.x∨r=[] then lineV a b x else atV (b::r) x
 | _,_=>(0,0)
inductive Incr:List Kn→Prop
 | nil:Incr []
 | one (a:Kn):Incr [a]
 | cons {a b:Kn} {l:List Kn} (h:a.x<b.x) (k:Incr (b::l)):Incr (a::b::l)
theorem lineV_end {a b:Kn} (h:a.x<b.x):lineV a b b.x=(b.lo,b.hi):=by
 unfold lineV
 have:b.x-a.x≠0:=by omega
 rw [Int.mul_ediv_cancel_left _ this,Int.mul_ediv_cancel_left _ this]
 simp;omega
theorem lineV_start {a b:Kn}:lineV a b a.x=(a.lo,a.hi):=by
 unfold lineV
 simp
theorem Incr.at_:∀ {l:List Kn},Incr l→∀ {i j:Nat} {a b:Kn},i<j→l[i]?=some a→l[j]?=some b→a.x<b.x
 | _,.nil,i,j,a,b,_,h,_=>by simp at h
 | _,.one _,i,j,a,b,hij,_,h=>by
   have:=(List.getElem?_eq_some_iff.1 h).1
   simp at this;omega
 | _,.cons (a:=u) (b:=v) (l:=l) h k,i,j,a,b,hij,ha,hb=>by
   cases j with
   | zero=>omega
   | succ j=>
     rw [List.getElem?_cons_succ] at hb
     cases i with
     | zero=>
       obtain rfl:u=a:=by simpa using ha
       cases j with
       | zero=>
         obtain rfl:v=b:=by simpa using hb
         exact h
       | succ j=>
         have:=Incr.at_ k (i:=0) (j:=j+1) (by omega) rfl hb
         omega
     | succ i=>
       rw [List.getElem?_cons_succ] at ha
       exact Incr.at_ k (by omega) ha hb
theorem atV_seg:∀ {l:List Kn},Incr l→∀ {i:Nat} {a b:Kn} {x:Int},l[i]?=some a→l[i+1]?=some b→(i=0∨a.x≤x)→(i+2=l.length∨x≤b.x)→atV l x=lineV a b x
 | _,.nil,i,a,b,x,h,_,_,_=>by simp at h
 | _,.one _,i,a,b,x,_,h,_,_=>by
   have:=(List.getElem?_eq_some_iff.1 h).1
   simp at this
 | _,.cons (a:=u) (b:=v) (l:=l) h k,i,a,b,x,ha,hb,h0,h1=>by
   cases i with
   | zero=>
     obtain rfl:u=a:=by simpa using ha
     obtain rfl:v=b:=by simpa using hb
     have:x≤v.x∨l=[]:=by
       rcases h1 with h1|h1
       · right;simp at h1;exact h1
       · exact .inl h1
     unfold atV
     rw [if_pos this]
   | succ i=>
     rw [List.getElem?_cons_succ] at ha hb
     have hax:a.x≤x:=by rcases h0 with h0|h0;omega;exact h0
     by_cases hl:l=[]
     · subst hl
       have:=(List.getElem?_eq_some_iff.1 hb).1
       simp at this
     · by_cases hx:x≤v.x
       · have hi:i=0:=by
           cases i with
           | zero=>rfl
           | succ i=>
             have:=Incr.at_ k (i:=0) (j:=i+1) (by omega) rfl ha
             omega
         subst hi
         obtain rfl:v=a:=by simpa using ha
         have:x=v.x:=by omega
         unfold atV
         rw [if_pos (.inl hx),this,lineV_end h,lineV_start]
       · unfold atV
         rw [if_neg (by rintro (h|h);exact hx h;exact hl h)]
         exact atV_seg k ha hb (.inr hax) (by simpa using h1)
def Kn.val (k:Kn):Int×Int:=(k.lo,k.hi)
def kIn (p q:Int) (k:Kn):Bool:=decide (p<k.x) && decide (k.x<q)
def valV (t:List Kn) (p q:Int):Int×Int:=hullA (hullS (atV t p) (atV t q)) ((t.filter (kIn p q)).map Kn.val)
def SIn (b a:Int×Int):Prop:=a.1≤b.1∧b.2≤a.2
theorem SIn.refl (a:Int×Int):SIn a a:=⟨Int.le_refl _,Int.le_refl _⟩
theorem SIn.trans {a b c:Int×Int} (h:SIn a b) (k:SIn b c):SIn a c:=⟨Int.le_trans k.1 h.1,Int.le_trans h.2 k.2⟩
theorem hullS_left (a b:Int×Int):SIn a (hullS a b):=by unfold SIn hullS;simp only;omega
theorem hullS_right (a b:Int×Int):SIn b (hullS a b):=by unfold SIn hullS;simp only;omega
theorem hullS_least {a b c:Int×Int} (h:SIn a c) (k:SIn b c):SIn (hullS a b) c:=by unfold SIn hullS at *;simp only;omega
theorem hullA_mono {s:Int×Int}:∀ {l:List (Int×Int)},SIn s (hullA s l)
 | []=>SIn.refl s
 | x::l=>(hullS_left s x).trans (hullA_mono (s:=hullS s x) (l:=l))
theorem hullA_mem {s:Int×Int}:∀ {l:List (Int×Int)} {x:Int×Int},x∈l→SIn x (hullA s l)
 | y::l,x,h=>by
   rcases List.mem_cons.1 h with rfl|h
   · exact (hullS_right s x).trans (hullA_mono (s:=hullS s x) (l:=l))
   · exact hullA_mem (s:=hullS s y) (l:=l) h
theorem hullA_least {c:Int×Int}:∀ {l:List (Int×Int)} {s:Int×Int},SIn s c→(∀ x∈l,SIn x c)→SIn (hullA s l) c
 | [],s,h,_=>h
 | x::l,s,h,k=>hullA_least (l:=l) (hullS_least h (k x (List.mem_cons_self ..))) (fun y hy=>k y (List.mem_cons_of_mem _ hy))
def knCells (k:Kn):List Value:=[.int .i64 k.x,.int .i64 k.lo,.int .i64 k.hi]
structure TabOk (t:List Kn):Prop where
 l2:2≤t.length
 l32:t.length≤32
 inc:Incr t
 ok:∀ k∈t,-100000≤k.x∧k.x≤100000∧-100000≤k.lo∧k.lo≤k.hi∧k.hi≤100000
theorem TabOk.at_ {t:List Kn} (h:TabOk t) {i:Nat} {k:Kn} (hk:t[i]?=some k) : -100000≤k.x∧k.x≤100000∧-100000≤k.lo∧k.lo≤k.hi∧k.hi≤100000:=h.ok k (List.mem_of_getElem? hk)
theorem kn_read {w:World} {A:Option Addr} {n:Nat} {t:List Kn} (h:RdS w 3 A n (t.map knCells)) {i:Nat} (hi:i<n) :
   ∃ b o k,A=some ⟨b,o,none⟩∧b<w.heap.size∧t[i]?=some k∧w.cell? ⟨b,o+i*3,none⟩=some (.int .i64 k.x)∧w.cell? ⟨b,o+i*3+1,none⟩=some (.int .i64 k.lo)∧w.cell? ⟨b,o+i*3+2,none⟩=some (.int .i64 k.hi):=by
 obtain ⟨b,o,cs,hA,hb,hx,_,hc⟩:=h.row hi
 simp only [List.getElem?_map,Option.map_eq_some_iff] at hx
 obtain ⟨x,hx,rfl⟩:=hx
 exact ⟨b,o,x,hA,hb,hx,hc 0 _ rfl,hc 1 _ rfl,hc 2 _ rfl⟩
theorem mono_cut {p:Nat→Bool} (n:Nat) (hm:∀ i j,i≤j→j<n→p i=true→p j=true):∃ r,r≤n∧(∀ j,j<r→p j=false)∧∀ j,r≤j→j<n→p j=true:=by
 induction n with
 | zero=>exact ⟨0,by omega,fun j hj=>by omega,fun j _ hj=>by omega⟩
 | succ n ih=>
   obtain ⟨r,h1,h2,h3⟩:=ih (fun i j hij hj=>hm i j hij (by omega))
   by_cases hr:r<n
   · exact ⟨r,by omega,h2,fun j hj hj2=>by
       rcases Nat.lt_or_ge j n with h|h
       · exact h3 j hj h
       · exact hm r j hj hj2 (h3 r (Nat.le_refl _) hr)⟩
   · cases hp:p n with
     | true=>exact ⟨n,by omega,fun j hj=>h2 j (by omega),fun j hj hj2=>by rw [show j=n by omega];exact hp⟩
     | false=>exact ⟨n+1,by omega,fun j hj=>by
         rcases Nat.lt_or_ge j r with h|h
         · exact h2 j h
         · rw [show j=n by omega];exact hp,fun j hj hj2=>by omega⟩
theorem div_uniq {a b k:Int} (hb:0<b) (h1:k*b≤a) (h2:a<(k+1)*b):a / b=k:=
 Int.le_antisymm (Int.lt_add_one_iff.1 (Int.ediv_lt_of_lt_mul hb h2)) (Int.le_ediv_of_mul_le hb h1)
theorem down_eq {a b:Int} (hb:0<b):(a<a.tdiv b*b→a / b=a.tdiv b-1)∧(¬ a<a.tdiv b*b→a / b=a.tdiv b):=by
 rcases Int.le_total 0 a with h|h
 · have e:=Int.tdiv_eq_ediv_of_nonneg (b:=b) h
   have:=Int.ediv_mul_le a (Int.ne_of_gt hb)
   rw [e]
   exact ⟨fun h=>by omega,fun _=>rfl⟩
 · have e:a.tdiv b=-((-a) / b):=by rw [← Int.tdiv_eq_ediv_of_nonneg (by omega),Int.neg_tdiv,Int.neg_neg]
   have h1:=Int.ediv_mul_le (-a) (Int.ne_of_gt hb)
   have h2:=Int.lt_ediv_add_one_mul_self (-a) hb
   generalize hm:(-a) / b=m at *
   rw [e]
   have e2 : -m*b=-(m*b):=Int.neg_mul ..
   rw [Int.add_mul,Int.one_mul] at h2
   refine ⟨fun h=>div_uniq hb ?_ ?_,fun h=>div_uniq hb ?_ ?_⟩
   · rw [Int.sub_mul,Int.one_mul];omega
   · rw [show -m-1+1=-m by omega];omega
   · omega
   · rw [Int.add_mul,Int.one_mul];omega
theorem tdiv_abs {a b m:Int} (hb:0<b) (h : -m≤a∧a≤m) : -m≤a.tdiv b∧a.tdiv b≤m:=by
 rcases Int.le_total 0 a with h0|h0
 · rw [Int.tdiv_eq_ediv_of_nonneg h0]
   have:=Int.ediv_le_self b h0
   have:=Int.ediv_nonneg h0 (Int.le_of_lt hb)
   omega
 · have e:a.tdiv b=-((-a) / b):=by rw [← Int.tdiv_eq_ediv_of_nonneg (by omega),Int.neg_tdiv,Int.neg_neg]
   have:=Int.ediv_le_self b (show 0≤-a by omega)
   have:=Int.ediv_nonneg (show 0≤-a by omega) (Int.le_of_lt hb)
   rw [e];omega
theorem ediv_abs {a b m:Int} (hb:0<b) (h : -m≤a∧a≤m) : -m-1≤a / b∧a / b≤m:=by
 have:=tdiv_abs hb h
 have k:=down_eq (a:=a) hb
 by_cases hh:a<a.tdiv b*b
 · rw [k.1 hh];omega
 · rw [k.2 hh];omega
def accV (t:List Kn) (p q:Int) (k:Nat):Int×Int:=hullA (hullS (atV t p) (atV t q)) (((t.take k).filter (kIn p q)).map Kn.val)
theorem accV_all {t:List Kn} {p q:Int} {k:Nat} (h:t.length≤k):accV t p q k=valV t p q:=by unfold accV valV;rw [List.take_of_length_le h]
theorem accV_yes {t:List Kn} {p q:Int} {k:Nat} {x:Kn} (h:t[k]?=some x) (h1:p<x.x) (h2:x.x<q):accV t p q (k+1)=hullS (accV t p q k) x.val:=by
 unfold accV hullA
 rw [List.take_add_one,h,List.filter_append,List.map_append,List.foldl_append]
 simp [kIn,h1,h2]
theorem accV_no {t:List Kn} {p q:Int} {k:Nat} {x:Kn} (h:t[k]?=some x) (h1:¬ (p<x.x∧x.x<q)):accV t p q (k+1)=accV t p q k:=by
 unfold accV hullA
 rw [List.take_add_one,h,List.filter_append,List.map_append,List.foldl_append]
 have:kIn p q x=false:=by simp [kIn];omega
 simp [this]
def riseV (p:Int×Int) (climb:Int) (t:Int×Int):Int×Int:=
 (p.1*(1000000*t.1-341632*climb) / (1000000*t.1),(p.2*(1000000*t.2)+(1000000*t.2)+341632*climb-1) / (1000000*t.2+341632*climb))
def sinkV (p:Int×Int) (climb:Int) (t:Int×Int):Int×Int:=
 (p.1*(1000000*t.2+341632*climb) / (1000000*t.2),(p.2*(1000000*t.1)+(1000000*t.1)-341632*climb-1) / (1000000*t.1-341632*climb))
structure GapOk (climb:Int) (t:Int×Int):Prop where
 c0:0≤climb
 c1:climb≤2000
 t0:1500≤t.1
 t1:t.1≤t.2
 t2:t.2≤3500
theorem ediv_mono {a b d:Int} (hd:0<d) (h:a≤b):a / d≤b / d:=Int.ediv_le_ediv hd h
def gapT (a b:Lv):Int×Int:=hullS a.temp b.temp
def upI (a b:Lv):Int×Int:=riseV a.press (b.h-a.h) (gapT a b)
def dnI (a b:Lv):Int×Int:=sinkV b.press (b.h-a.h) (gapT a b)
inductive Tt:List Lv→List Lv→Prop
 | nil:Tt [] []
 | cons {y x:Lv} {m l:List Lv} (h:y.h=x.h∧y.tlo=x.tlo∧y.thi=x.thi∧SIn y.press x.press) (k:Tt m l):Tt (y::m) (x::l)
theorem Tt.refl:∀ (l:List Lv),Tt l l
 | []=>.nil
 | _::l=>.cons ⟨rfl,rfl,rfl,.refl _⟩ (Tt.refl l)
theorem Tt.len {l m:List Lv} (h:Tt m l):m.length=l.length:=by
 induction h with
 | nil=>rfl
 | cons _ _ ih=>simp [ih]
theorem Tt.trans {l m n:List Lv} (h:Tt n m) (k:Tt m l):Tt n l:=by
 induction h generalizing l with
 | nil=>exact k
 | cons h _ ih=>
   cases k with
   | cons h' k'=>exact .cons ⟨h.1.trans h'.1,h.2.1.trans h'.2.1,h.2.2.1.trans h'.2.2.1,h.2.2.2.trans h'.2.2.2⟩ (ih k')
theorem Tt.get {l m:List Lv} (h:Tt m l) {i:Nat} {y x:Lv} (hy:m[i]?=some y) (hx:l[i]?=some x):y.h=x.h∧y.tlo=x.tlo∧y.thi=x.thi∧SIn y.press x.press:=by
 induction h generalizing i with
 | nil=>simp at hy
 | cons h _ ih=>
   cases i with
   | zero=>
     simp at hy hx
     subst hy hx
     exact h
   | succ i=>exact ih (by simpa using hy) (by simpa using hx)
theorem Tt.set {l m:List Lv} (h:Tt m l) {i:Nat} {y x:Lv} (hx:l[i]?=some x) (hy:y.h=x.h∧y.tlo=x.tlo∧y.thi=x.thi∧SIn y.press x.press):Tt (m.set i y) l:=by
 induction h generalizing i with
 | nil=>simp at hx
 | cons h k ih=>
   cases i with
   | zero=>
     simp at hx
     subst hx
     exact .cons hy k
   | succ i=>exact .cons h (ih (by simpa using hx))
inductive Ch:List Lv→Prop
 | nil:Ch []
 | one {a:Lv} (h:0≤a.plo∧0≤a.phi):Ch [a]
 | cons {a b:Lv} {l:List Lv} (h:0≤a.plo∧0≤a.phi) (g:GapOk (b.h-a.h) (gapT a b)) (k:Ch (b::l)):Ch (a::b::l)
theorem Ch.head {a:Lv} {l:List Lv} (h:Ch (a::l)):0≤a.plo∧0≤a.phi:=by cases h<;>assumption
inductive Fix:List Lv→Prop
 | nil:Fix []
 | one (a:Lv):Fix [a]
 | cons {a b:Lv} {l:List Lv} (h:SIn b.press (upI a b)) (h':SIn a.press (dnI a b)) (k:Fix (b::l)):Fix (a::b::l)
inductive FixU:List Lv→Prop
 | nil:FixU []
 | one (a:Lv):FixU [a]
 | cons {a b:Lv} {l:List Lv} (h:SIn b.press (upI a b)) (k:FixU (b::l)):FixU (a::b::l)
theorem upI_eq {a b a' b':Lv} (h1:a'.h=a.h) (h2:a'.tlo=a.tlo) (h3:a'.thi=a.thi) (k1:b'.h=b.h) (k2:b'.tlo=b.tlo) (k3:b'.thi=b.thi):gapT a' b'=gapT a b∧b'.h-a'.h=b.h-a.h:=by
 unfold gapT Lv.temp
 rw [h1,h2,h3,k1,k2,k3]
 exact ⟨rfl,rfl⟩
theorem Ch.put {x x':Lv} {l:List Lv} (h:Ch (x::l)) (h1:x'.h=x.h) (h2:x'.tlo=x.tlo) (h3:x'.thi=x.thi) (hp:0≤x'.plo∧0≤x'.phi):Ch (x'::l):=by
 cases h with
 | one _=>exact .one hp
 | cons h g k=>
   rename_i b l
   have e:=upI_eq (b':=b) (b:=b) h1 h2 h3 rfl rfl rfl
   exact .cons hp (by rw [e.1,e.2];exact g) k
theorem Fix.get {l:List Lv} (h:Fix l):∀ {i:Nat} {a b:Lv},l[i]?=some a→l[i+1]?=some b→SIn b.press (upI a b)∧SIn a.press (dnI a b):=by
 induction h with
 | nil=>intro i a b ha;simp at ha
 | one _=>intro i a b _ hb;simp at hb
 | cons h h' _ ih=>
   intro i a b ha hb
   cases i with
   | zero=>
     simp at ha hb
     subst ha hb
     exact ⟨h,h'⟩
   | succ i=>exact ih (by simpa using ha) (by simpa using hb)
theorem Ch.get {l:List Lv} (h:Ch l):∀ {i:Nat} {a b:Lv},l[i]?=some a→l[i+1]?=some b→GapOk (b.h-a.h) (gapT a b):=by
 induction h with
 | nil=>intro i a b ha;simp at ha
 | one _=>intro i a b _ hb;simp at hb
 | cons h h' _ ih=>
   intro i a b ha hb
   cases i with
   | zero=>
     simp at ha hb
     subst ha hb
     exact h'
   | succ i=>exact ih (by simpa using ha) (by simpa using hb)
theorem Ch.pos {l:List Lv} (h:Ch l) {a:Lv} (ha:a∈l):0≤a.plo∧0≤a.phi:=by
 induction h with
 | nil=>cases ha
 | one h=>
   obtain rfl:a=_:=by simpa using ha
   exact h
 | cons h _ _ ih=>
   rcases List.mem_cons.1 ha with rfl|ha
   · exact h
   · exact ih ha
end Go.Proofs.YtcjkndjjbjoehaaGreat
namespace Go.Proofs.YtcjkndjjbjoehaaGreat
open Go.RowKit
attribute [local irreducible] OQ OS OX Rd T TL GX GL AL AI RV wpG SAny Calls
theorem search_calls (f:Nat) (caps:List Value) (n r:Nat) (p:Nat→Bool) (hn:n≤1000000000) (hr:r≤n) (h1:∀ j,j<r→p j=false) (h2:∀ j,r≤j→j<n→p j=true) (w:World) (hc:∀ (a:Array Value) (w:World),(callFunc f a).run Tryz.prog w=.ok (.enter f a) w)
   (hf:∀ j,j<n→∀ w1,Ext w w1→Calls Tryz.prog f ⟨.int .i64 (j:Int)::caps⟩ w1 fun e w'=>e=.returned (.bool (p j))∧Ext w1 w') :
   Calls Tryz.prog 90 #[.int .i64 (n:Int),.func (.func f) #[] ⟨caps⟩] w fun e w'=>e=.returned (.int .i64 (r:Int))∧Ext w w':=by
 refine enterQ (c:=cx w 26) Tryz.func90 rfl rfl rfl rfl ?_
 ((all_goals refine goF0e ?_);(all_goals constructor);(any_goals exact trivial);all_goals intros)
 apply t_loopK (ι:=(Nat×Nat)) [1,4,25] (fun (i:Nat×Nat)=>[(5,.int .i64 (i.1:Int)),(6,.int .i64 (i.2:Int))]) (fun _=>[]) (fun i=>i.1≤r∧r≤i.2∧i.2≤n) (fun i=>i.2-i.1) ((0,n))
 (repeat (first|exact KeepF.nil|(apply KeepF.cons;exact rfl)|apply KeepF.skip))
 (repeat first|exact FrSub.nil|(apply FrSub.cons;exact rfl))
 (repeat (first|exact HpSub.refl _|(apply HpSub.consE;(repeat first|exact P0|apply P1);exact rfl)|exact HpSub.nil))
 · simp only;omega
 rintro ⟨i,j⟩ ⟨i0,i1,i2⟩
 simp only at i0 i1 i2
 dsimp only
 by_cases hij:i<j
 · have hm:(i+j) / 2<n:=by omega
   cases hp:p ((i+j) / 2) with
   | false=>
     have hf':=hf ((i+j) / 2) hm
     rw [hp] at hf'
     have hlt:(i+j) / 2<r:=by
       rcases Nat.lt_or_ge ((i+j) / 2) r with h|h
       · exact h
       · rw [h2 _ h hm] at hp;cases hp
     ((all_goals refine goF0e ?_);(all_goals constructor);(any_goals exact trivial);all_goals intros)
     refine ⟨((i+j) / 2+1,j),⟨by simp only;omega,i1,i2⟩,by simp only;omega,?_,?_⟩<;>(repeat' (first|exact FrSub.nil|(apply FrSub.cons;exact rfl)|exact HpSub.refl _))
   | true=>
     have hf':=hf ((i+j) / 2) hm
     rw [hp] at hf'
     have hge:r≤(i+j) / 2:=by
       rcases Nat.lt_or_ge ((i+j) / 2) r with h|h
       · rw [h1 _ h] at hp;cases hp
       · exact h
     ((all_goals refine goF0e ?_);(all_goals constructor);(any_goals exact trivial);all_goals intros)
     refine ⟨(i,(i+j) / 2),⟨i0,hge,by simp only;omega⟩,by simp only;omega,?_,?_⟩<;>(repeat' (first|exact FrSub.nil|(apply FrSub.cons;exact rfl)|exact HpSub.refl _))
 · obtain rfl:i=j:=by omega
   obtain rfl:i=r:=by omega
   ((all_goals refine goF0e ?_);(all_goals constructor);(any_goals exact trivial);all_goals intros)
   rfl
theorem at1_calls (A:Option Addr) (n c:Nat) (t:List Kn) (x:Int) (b2 b3:Nat) (j:Nat) (hj:j<n) (k:Kn) (hk:t[j]?=some k) (w:World) (hr:RdS w 3 A n (t.map knCells)) (m0:w.cell? ⟨b2,0,none⟩=some (.slice A n c)) (m1:w.cell? ⟨b3,0,none⟩=some (.int .i64 x)) :
   Calls Tryz.prog 163 #[.int .i64 (j:Int),.pointer (some ⟨b2,0,none⟩),.pointer (some ⟨b3,0,none⟩)] w fun e w'=>e=.returned (.bool (decide (x<k.x)))∧Ext w w':=by
 obtain ⟨b,o,k',rfl,_,hk',c0,c1,c2⟩:=kn_read hr hj
 obtain rfl:k=k':=by rw [hk] at hk';exact Option.some.inj hk'
 refine enterQ (c:=cx w 12) Tryz.func163 rfl rfl rfl rfl ?_
 ((all_goals refine goF0e ?_);(all_goals constructor);(any_goals exact trivial);all_goals intros)
 all_goals rfl
theorem down_calls (a b:Int) (hb:0<b) (hb1:b≤1000000) (ha : -1000000000000≤a∧a≤1000000000000) (w:World):Calls Tryz.prog 164 #[.int .i64 a,.int .i64 b] w fun e w'=>e=.returned (.int .i64 (a / b))∧Ext w w':=by
 have hq:=tdiv_abs hb ha
 have hm:=mul_abs (x:=a.tdiv b) (y:=b) (a:=1000000000000) (b:=1000000) hq (by omega)
 have hd:=down_eq (a:=a) hb
 have r1:InR (a.tdiv b):=⟨by omega,by omega⟩
 have r2:InR (a.tdiv b*b):=⟨by omega,by omega⟩
 refine enterQ (c:=cx w 17) Tryz.func164 rfl rfl rfl rfl ?_
 ((all_goals refine goF0e ?_);(all_goals constructor);(any_goals exact trivial);all_goals intros)
 · rw [hd.1 (by assumption)];rfl
 · rw [hd.2 (by assumption)];rfl
theorem srch_at {w:World} {D:List Nat} {H H1 H2:Hp} {b2 b3:Nat} {tg tg':Tg} {A:Option Addr} {n c:Nat} {t:List Kn} (hr:RdS w 3 A n (t.map knCells)) (ht:TabOk t) (x:Int) (r:Nat) (hr1:r≤n) (h1:∀ j k,j<r→t[j]?=some k→k.x≤x) (h2:∀ j k,r≤j→t[j]?=some k→x<k.x)
   (w1:World) (hw:Has w ⟨[],D⟩ H w1) (p1:Pick H b2 [.slice A n c] tg H1) (p2:Pick H b3 [.int .i64 x] tg' H2) :
   Calls Tryz.prog 90 #[.int .i64 (n:Int),.func (.func 163) #[] ⟨[.pointer (some ⟨b2,0,none⟩),.pointer (some ⟨b3,0,none⟩)]⟩] w1 fun e w'=>e=.returned (.int .i64 (r:Int))∧Ext w1 w':=by
 have hl:=hr.len
 simp only [List.length_map] at hl
 have h32:=ht.l32
 have m0:=hw.cellAt p1 (o:=0) rfl
 have m1:=hw.cellAt p2 (o:=0) rfl
 refine search_calls 163 _ n r (fun j=>match t[j]? with|some k=>decide (x<k.x)|none=>true) (by omega) hr1 (fun j hj=>?_) (fun j hj hjn=>?_) w1 Tryz.call163 (fun j hj w2 hx=>?_)
 · have:t[j]?=some t[j]:=List.getElem?_eq_getElem (by omega)
   have h:=h1 j _ hj this
   simp only [this]
   simpa using h
 · have:t[j]?=some t[j]:=List.getElem?_eq_getElem (by omega)
   have h:=h2 j _ hj this
   simp only [this]
   simpa using h
 · have:t[j]?=some t[j]:=List.getElem?_eq_getElem (by omega)
   simp only [this]
   exact at1_calls A n c t x b2 b3 j hj _ this w2 (hr.ext (hw.ext.ext.trans hx)) (hx.cell m0) (hx.cell m1)
theorem line_bounds {a b:Kn} (ha : -100000≤a.x∧a.x≤100000∧-100000≤a.lo∧a.lo≤a.hi∧a.hi≤100000) (hb : -100000≤b.x∧b.x≤100000∧-100000≤b.lo∧b.lo≤b.hi∧b.hi≤100000) (h:a.x<b.x) {x:Int} (hx : -100000≤x∧x≤100000) :
   (-1000000000000≤(x-a.x)*(b.lo-a.lo)∧(x-a.x)*(b.lo-a.lo)≤1000000000000)∧(-1000000000000≤(x-a.x)*(a.hi-b.hi)∧(x-a.x)*(a.hi-b.hi)≤1000000000000) ∧
   (-1000000000001≤(x-a.x)*(b.lo-a.lo) / (b.x-a.x)∧(x-a.x)*(b.lo-a.lo) / (b.x-a.x)≤1000000000000)∧(-1000000000001≤(x-a.x)*(a.hi-b.hi) / (b.x-a.x)∧(x-a.x)*(a.hi-b.hi) / (b.x-a.x)≤1000000000000):=by
 have m1:=mul_abs (x:=x-a.x) (y:=b.lo-a.lo) (a:=200000) (b:=200000) (by omega) (by omega)
 have m2:=mul_abs (x:=x-a.x) (y:=a.hi-b.hi) (a:=200000) (b:=200000) (by omega) (by omega)
 have d1:=ediv_abs (b:=b.x-a.x) (m:=1000000000000) (by omega) (a:=(x-a.x)*(b.lo-a.lo)) (by omega)
 have d2:=ediv_abs (b:=b.x-a.x) (m:=1000000000000) (by omega) (a:=(x-a.x)*(a.hi-b.hi)) (by omega)
 omega
theorem at_calls (A:Option Addr) (n c:Nat) (t:List Kn) (x:Int) (w:World) (hr:RdS w 3 A n (t.map knCells)) (ht:TabOk t) (hx : -100000≤x∧x≤100000) :
   Calls Tryz.prog 146 #[.slice A n c,.int .i64 x] w fun e w'=>e=.returned (.agg #[.int .i64 (atV t x).1,.int .i64 (atV t x).2])∧Ext w w':=by
 have hl:=hr.len
 simp only [List.length_map] at hl
 have l2:=ht.l2
 have l32:=ht.l32
 obtain ⟨r,hrn,s1,s2⟩:=mono_cut (p:=fun j=>match t[j]? with|some k=>decide (x<k.x)|none=>true) n (fun i j hij hj=>by
   have ei:t[i]?=some t[i]:=List.getElem?_eq_getElem (by omega)
   have ej:t[j]?=some t[j]:=List.getElem?_eq_getElem (by omega)
   simp only [ei,ej]
   intro h
   simp only [decide_eq_true_eq] at h ⊢
   rcases Nat.lt_or_eq_of_le hij with h1|h1
   · have:=ht.inc.at_ h1 ei ej;omega
   · subst h1;exact h)
 have h1:∀ j k,j<r→t[j]?=some k→k.x≤x:=fun j k hj hk=>by have:=s1 j hj;simp only [hk] at this;simpa using this
 have h2:∀ j k,r≤j→t[j]?=some k→x<k.x:=fun j k hj hk=>by
   have:=s2 j hj (by have:=(List.getElem?_eq_some_iff.1 hk).1;omega)
   simp only [hk] at this;simpa using this
 obtain ⟨g,hg⟩:∃ g:Nat,g+1=min (max r 1) (n-1):=⟨min (max r 1) (n-1)-1,by omega⟩
 obtain ⟨ba,oa,a,rfl,hba,ha,c0,c1,c2⟩:=kn_read hr (show g<n by omega)
 obtain ⟨bb,ob,b,hA,_,hb,d0,d1,d2⟩:=kn_read hr (show g+1<n by omega)
 obtain ⟨rfl,rfl⟩:bb=ba∧ob=oa:=by simpa using hA.symm
 have oka:=ht.at_ ha
 have okb:=ht.at_ hb
 have hab:=ht.inc.at_ (Nat.lt_succ_self g) ha hb
 have hval:atV t x=lineV a b x:=by
   refine atV_seg ht.inc ha hb ?_ ?_
   · by_cases h0:g=0
     · exact .inl h0
     · exact .inr (h1 g a (by omega) ha)
   · by_cases h0:g+2=t.length
     · exact .inl h0
     · exact .inr (by have:=h2 (g+1) b (by omega) hb;omega)
 obtain ⟨M1,M2,D1,D2⟩:=line_bounds oka okb hab hx
 have k1:InR ((x-a.x)*(b.lo-a.lo)):=⟨by omega,by omega⟩
 have k2:InR ((x-a.x)*(a.hi-b.hi)):=⟨by omega,by omega⟩
 rw [hval]
 clear hval s1 s2
 refine enterQ (c:=cx w 69) Tryz.func146 rfl rfl rfl rfl ?_
 repeat' (first|((with_reducible apply oq_id);first|((with_reducible apply oq_min2E (k:=((g+1:Nat):Int)));exact rfl;exact rfl;omega)|((with_reducible apply oq_subE (k:=(g:Int)));exact rfl;exact rfl;omega)|(focus ((with_reducible apply oq_indexAddrN);(iterate 4 exact rfl);omega))|(apply oq_fn;exact rfl;first|exact trivial|(and_intros<;>omega)|omega|skip)|((with_reducible apply oq_load);exact rfl;exact rfl)|((with_reducible apply oq_loadAgg);exact rfl;exact rfl)|((with_reducible apply oq_call (hc:=Tryz.call90));exact rfl;exact rfl;exact fun D w1 hw1=>srch_at hr ht x r hrn h1 h2 w1 hw1 (by (repeat first|exact P0|apply P1)) (by (repeat first|exact P0|apply P1))))|((with_reducible apply tl_id);first|(with_reducible apply tl_nil)|((with_reducible apply u_q);(iterate 4 exact rfl))|((with_reducible apply u_s);(iterate 3 exact rfl)))|((with_reducible apply gx_id);first|(with_reducible apply v_nil)|((with_reducible apply v_q);(iterate 3 exact rfl)))|((with_reducible apply os_id);first|((with_reducible apply os_x);exact rfl)|((with_reducible apply os_storeAgg);(iterate 5 exact rfl)))|((with_reducible apply ox_id);first|((with_reducible apply ox_alloc);exact rfl;intro _)|((with_reducible apply ox_box);exact rfl;exact rfl;intro _))|((with_reducible apply ai_id);first|((with_reducible apply ai_x);(iterate 5 exact rfl))|((with_reducible apply ai_n0);(iterate 3 exact rfl)))|((with_reducible apply al_keep);focus (repeat first|exact HpSub.refl _|(apply HpSub.cons;(repeat first|exact P0|apply P1))|exact HpSub.nil))|((with_reducible apply rd_id);first|(apply Rd.own;(repeat first|exact P0|apply P1);exact rfl;done)|(apply Rd.old;(first|(with_reducible assumption)|exact c0|exact c1|exact c2|exact d0|exact d1|exact d2);first|exact List.not_mem_nil))|((with_reducible apply t_id);first|(with_reducible apply t_cutK (ι:=(Nat×Nat)) (rid:=3) [2,3,4,5] (fun i=>[(6,.pointer (some ⟨i.1,0,none⟩)),(7,.pointer (some ⟨i.2,0,none⟩))]) (fun i=>[(i.1,knCells a,some (212,3,1)),(i.2,knCells b,some (212,3,1))]));(repeat (first|exact KeepF.nil|(apply KeepF.cons;exact rfl)|apply KeepF.skip))|(with_reducible apply t_seq)|(apply t_region;kernel_rfl))|with_reducible apply q_thenN|exact P0|(with_reducible apply P1)|exact Rdn.zero|apply Rdn.succ|((with_reducible apply Norm.nil);exact rfl)|((with_reducible apply Norm.cons);exact rfl)|((with_reducible apply cut_in2)<;>(repeat' (first|exact FrSub.nil|(apply FrSub.cons;exact rfl)|exact HpSub.refl _|(apply HpSub.consE;(repeat first|exact P0|apply P1);exact rfl)|exact HpSub.nil)))|(apply t_mix (id:=3) [0,1,2,3,4,5,6,7,8] 4 #[false,false,false,false,false,false,false,false,false,false,false,false,false];kernel_rfl;kernel_rfl;exact rfl)|((with_reducible apply al_id);first|(apply al_done;decide +kernel)|(apply al_one 9;decide +kernel)|(apply al_one 10;decide +kernel)|(apply al_one 11;decide +kernel)|(apply al_one 12;decide +kernel)|(apply al_two 9 10;decide +kernel))|exact Nat.le_of_ble_eq_true rfl)
 rintro ⟨b6,b7⟩
 try simp only [List.cons_append,List.nil_append]
 ((all_goals refine goF0e ?_);(all_goals constructor);(any_goals exact trivial);all_goals intros)
 all_goals rfl
theorem checkTable_ok (A:Option Addr) (n c:Nat) (t:List Kn) (w:World) (hr:RdS w 3 A n (t.map knCells)) (ht:TabOk t) :
   Calls Tryz.prog 145 #[.slice A n c] w fun e w'=>e=.returned (.int .i64 0)∧Ext w w':=by
 have hl:=hr.len
 simp only [List.length_map] at hl
 have l2:=ht.l2
 have l32:=ht.l32
 refine enterQ (c:=cx w 61) Tryz.func145 rfl rfl rfl rfl ?_
 ((all_goals refine goF0e ?_);(all_goals constructor);(any_goals exact trivial);all_goals intros)
 apply t_loopK (ι:=Nat) [0,13,14] (fun k=>[(15,.int .i64 (k:Nat))]) (fun _=>[]) (fun k=>k≤n) (fun k=>n-k) (0)
 (repeat (first|exact KeepF.nil|(apply KeepF.cons;exact rfl)|apply KeepF.skip))
 (repeat first|exact FrSub.nil|(apply FrSub.cons;exact rfl))
 (repeat (first|exact HpSub.refl _|(apply HpSub.consE;(repeat first|exact P0|apply P1);exact rfl)|exact HpSub.nil))
 · omega
 intro k hk
 try simp only [List.cons_append,List.nil_append]
 by_cases hlt:k<n
 · obtain ⟨b,o,y,rfl,_,hy,c0,c1,c2⟩:=kn_read hr hlt
   have oky:=ht.at_ hy
   cases k with
   | zero=>
     ((all_goals refine goF0e ?_);(all_goals constructor);(any_goals exact trivial);all_goals intros)
     all_goals (refine ⟨1,by omega,by omega,?_,?_⟩<;>(try simp only [List.cons_append,List.nil_append])<;>(repeat' (first|exact FrSub.nil|(apply FrSub.cons;exact rfl)|exact HpSub.nil)))
   | succ j=>
     obtain ⟨b',o',x,hA,_,hx,d0,d1,d2⟩:=kn_read hr (show j<n by omega)
     obtain ⟨rfl,rfl⟩:b'=b∧o'=o:=by simpa using hA.symm
     have hxy:=ht.inc.at_ (Nat.lt_succ_self j) hx hy
     ((all_goals refine goF0e ?_);(all_goals constructor);(any_goals exact trivial);all_goals intros)
     all_goals (refine ⟨j+1+1,by omega,by omega,?_,?_⟩<;>(try simp only [List.cons_append,List.nil_append])<;>(repeat' (first|exact FrSub.nil|(apply FrSub.cons;exact rfl)|exact HpSub.nil)))
 · ((all_goals refine goF0e ?_);(all_goals constructor);(any_goals exact trivial);all_goals intros)
   all_goals rfl
theorem around2 {w0:World} {M:Ms} {H H':Hp} {w:World} {g:Nat} {a b c d:Int} {tg:Tg} (h:Has w0 M H w) (p:Pick H g [.int .i64 a,.int .i64 b,.int .i64 c,.int .i64 d] tg H') :
   Calls Tryz.prog 143 #[.slice (some ⟨g,0,none⟩) 2 2] w fun e w'=>e=.returned (.agg #[.int .i64 (min a c),.int .i64 (max b d)])∧Ext w w':=by
 have:=around_calls (some ⟨g,0,none⟩) 2 2 (a,b) [(a,b),(c,d)] w (Blk.rows (k:=2) (rows:=[(a,b),(c,d)].map spanCells) (h.blk _ p.mem).2 rfl (by simp [spanCells])) (by omega) rfl (by omega) (by omega)
 have e:hullA (a,b) [(a,b),(c,d)]=(min a c,max b d):=by simp only [hullA,hullS,List.foldl_cons,List.foldl_nil];congr 1<;>omega
 rw [e] at this
 exact this
theorem value_calls (A:Option Addr) (n c:Nat) (t:List Kn) (p q:Int) (w:World) (hr:RdS w 3 A n (t.map knCells)) (ht:TabOk t) (h0:∀ k,t[0]?=some k→k.x≤p) (hpq:p≤q) (hl:∀ k,t[n-1]?=some k→q≤k.x) :
   Calls Tryz.prog 124 #[.slice A n c,.agg #[.int .i64 p,.int .i64 q]] w fun e w'=>e=.returned (.tuple #[.agg #[.int .i64 (valV t p q).1,.int .i64 (valV t p q).2],.int .i64 0])∧Ext w w':=by
 have hlen:=hr.len
 simp only [List.length_map] at hlen
 have l2:=ht.l2
 have l32:=ht.l32
 obtain ⟨m,rfl⟩:∃ m,n=m+1:=⟨n-1,by omega⟩
 obtain ⟨b,o,k0,rfl,_,hk0,c0,c1,c2⟩:=kn_read hr (show 0<m+1 by omega)
 obtain ⟨b',o',km,hA,_,hkm,d0,d1,d2⟩:=kn_read hr (show m<m+1 by omega)
 obtain ⟨rfl,rfl⟩:b'=b∧o'=o:=by simpa using hA.symm
 have hp0:=h0 k0 hk0
 have hq0:=hl km hkm
 have ok0:=ht.at_ hk0
 have okm:=ht.at_ hkm
 have HC:=fun w1=>check_calls p q w1
 rw [if_pos ((fineS_iff _).2 ⟨hpq,by simp only;omega,by simp only;omega⟩)] at HC
 have HP:=fun w1 (hx:Ext w w1)=>at_calls _ _ c t p w1 (hr.ext hx) ht (by omega)
 have HQ:=fun w1 (hx:Ext w w1)=>at_calls _ _ c t q w1 (hr.ext hx) ht (by omega)
 refine enterQ (c:=cx w 78) Tryz.func124 rfl rfl rfl rfl ?_
 repeat' (first|((with_reducible apply oq_id);first|((with_reducible apply oq_subE (k:=(m:Int)));exact rfl;exact rfl;omega)|(focus ((with_reducible apply oq_indexAddrN);(iterate 4 exact rfl);omega))|(apply oq_fn;exact rfl;first|exact trivial|(and_intros<;>omega)|omega|skip)|((with_reducible apply oq_load);exact rfl;exact rfl)|((with_reducible apply oq_loadAgg);exact rfl;exact rfl)|((with_reducible apply oq_call (hc:=Tryz.call145));exact rfl;exact rfl;exact fun D w1 hw1=>checkTable_ok _ _ _ t w1 (hr.ext hw1.ext.ext) ht)|((with_reducible apply oq_call (hc:=Tryz.call89));exact rfl;exact rfl;exact fun D w1 hw1=>HC w1)|((with_reducible apply oq_call (hc:=Tryz.call146));exact rfl;exact rfl;exact fun D w1 hw1=>HP w1 hw1.ext.ext)|((with_reducible apply oq_call (hc:=Tryz.call146));exact rfl;exact rfl;exact fun D w1 hw1=>HQ w1 hw1.ext.ext)|((with_reducible apply oq_call (hc:=Tryz.call143));exact rfl;exact rfl;exact fun D w1 hw1=>around2 hw1 (by (repeat first|exact P0|apply P1))))|((with_reducible apply tl_id);first|(with_reducible apply tl_nil)|((with_reducible apply u_q);(iterate 4 exact rfl))|((with_reducible apply u_s);(iterate 3 exact rfl)))|((with_reducible apply gx_id);first|(with_reducible apply v_nil)|((with_reducible apply v_q);(iterate 3 exact rfl))|((with_reducible apply v_splitD);exact rfl;exact rfl;all_goals first|(intro hp;try (exfalso;omega))|skip))|((with_reducible apply os_id);first|((with_reducible apply os_x);exact rfl)|((with_reducible apply os_storeAgg);(iterate 5 exact rfl)))|((with_reducible apply ox_id);first|((with_reducible apply ox_alloc);exact rfl;intro _)|((with_reducible apply ox_boxAgg);exact rfl;intro _)|((with_reducible apply ox_buildSlice2);(iterate 6 exact rfl);intro _))|((with_reducible apply ai_id);first|((with_reducible apply ai_q);(iterate 5 exact rfl))|((with_reducible apply ai_x);(iterate 5 exact rfl))|((with_reducible apply ai_n0);(iterate 3 exact rfl)))|((with_reducible apply al_keep);focus (repeat first|exact HpSub.refl _|(apply HpSub.cons;(repeat first|exact P0|apply P1))|exact HpSub.nil))|((with_reducible apply rd_id);first|(apply Rd.own;(repeat first|exact P0|apply P1);exact rfl;done)|(apply Rd.old;(first|(with_reducible assumption)|exact c0|exact c1|exact c2|exact d0|exact d1|exact d2);first|exact List.not_mem_nil))|((with_reducible apply t_id);first|(with_reducible apply t_cutK (ι:=Nat) (rid:=9) [0,3,4,5] (fun i=>[(8,.pointer (some ⟨i,0,none⟩))]) (fun i=>[(i,[.int .i64 (accV t p q 0).1,.int .i64 (accV t p q 0).2],some (27,2,1))]));(repeat (first|exact KeepF.nil|(apply KeepF.cons;exact rfl)|apply KeepF.skip))|(with_reducible apply t_seq)|(apply t_region;kernel_rfl)|(apply t_drawn;kernel_rfl;decide +kernel)|((with_reducible apply t_condF);exact rfl)|((with_reducible apply t_condD);exact rfl;all_goals first|(intro hp;try (exfalso;omega))|skip)|(with_reducible apply t_skip))|with_reducible apply q_thenN|exact P0|(with_reducible apply P1)|exact Rdn.zero|apply Rdn.succ|((with_reducible apply Norm.nil);exact rfl)|((with_reducible apply Norm.cons);exact rfl)|((with_reducible apply cut_in1)<;>(repeat' (first|exact FrSub.nil|(apply FrSub.cons;exact rfl)|exact HpSub.refl _|(apply HpSub.consE;(repeat first|exact P0|apply P1);exact rfl)|exact HpSub.nil)))|(apply t_mix (id:=9) [0,1,2,3,4,5,6,7] 4 #[false,false,false,false,false,false,false,false,false,false,false,false];kernel_rfl;kernel_rfl;exact rfl)|((with_reducible apply al_id);first|(apply al_done;decide +kernel)|(apply al_one 8;decide +kernel)|(apply al_one 9;decide +kernel)|(apply al_one 10;decide +kernel)|(apply al_one 11;decide +kernel)|(apply al_two 8 10;decide +kernel)|(apply al_two 9 10;decide +kernel))|exact Nat.le_of_ble_eq_true rfl)
 intro b8
 try simp only [List.cons_append,List.nil_append]
 clear c0 c1 c2 d0 d1 d2 HP HQ HC
 ((all_goals refine goF0e ?_);(all_goals constructor);(any_goals exact trivial);all_goals intros)
 apply t_loopK (ι:=Nat) [3,4,5,8,53,54,77] (fun k=>[(55,.int .i64 (k:Nat))]) (fun k=>[(b8,[.int .i64 (accV t p q k).1,.int .i64 (accV t p q k).2],some (27,2,1))]) (fun k=>k≤m+1) (fun k=>m+1-k) (0)
 (repeat (first|exact KeepF.nil|(apply KeepF.cons;exact rfl)|apply KeepF.skip))
 (repeat first|exact FrSub.nil|(apply FrSub.cons;exact rfl))
 (repeat (first|exact HpSub.refl _|(apply HpSub.consE;(repeat first|exact P0|apply P1);exact rfl)|exact HpSub.nil))
 · omega
 intro k hk
 try simp only [List.cons_append,List.nil_append]
 by_cases hlt:k<m+1
 · obtain ⟨b1,o1,y,hA,_,hy,c0,c1,c2⟩:=kn_read hr hlt
   obtain ⟨rfl,rfl⟩:b1=b'∧o1=o':=by simpa using hA.symm
   by_cases h1:p<y.x
   · by_cases h2:y.x<q
     · have he:=accV_yes hy h1 h2
       ((all_goals refine goF0e ?_);(all_goals constructor);(any_goals exact trivial);all_goals intros)
       all_goals (refine ⟨k+1,by omega,by omega,?_,?_⟩<;>(try simp only [List.cons_append,List.nil_append])<;>(repeat' (first|exact FrSub.nil|(apply FrSub.cons;exact rfl)|(apply HpSub.consE;(repeat first|exact P0|apply P1);first|exact rfl|(rw [he];rfl))|exact HpSub.nil)))
     · have he:=accV_no (t:=t) (p:=p) (q:=q) hy (by omega)
       ((all_goals refine goF0e ?_);(all_goals constructor);(any_goals exact trivial);all_goals intros)
       all_goals (refine ⟨k+1,by omega,by omega,?_,?_⟩<;>(try simp only [List.cons_append,List.nil_append])<;>(repeat' (first|exact FrSub.nil|(apply FrSub.cons;exact rfl)|(apply HpSub.consE;(repeat first|exact P0|apply P1);first|exact rfl|(rw [he]))|exact HpSub.nil)))
   · have he:=accV_no (t:=t) (p:=p) (q:=q) hy (by omega)
     ((all_goals refine goF0e ?_);(all_goals constructor);(any_goals exact trivial);all_goals intros)
     all_goals (refine ⟨k+1,by omega,by omega,?_,?_⟩<;>(try simp only [List.cons_append,List.nil_append])<;>(repeat' (first|exact FrSub.nil|(apply FrSub.cons;exact rfl)|(apply HpSub.consE;(repeat first|exact P0|apply P1);first|exact rfl|(rw [he]))|exact HpSub.nil)))
 · have he:accV t p q k=valV t p q:=accV_all (by omega)
   ((all_goals refine goF0e ?_);(all_goals constructor);(any_goals exact trivial);all_goals intros)
   rw [he]
   all_goals rfl
theorem fromOne {w0:World} {M:Ms} {H H':Hp} {w:World} {g:Nat} {a lo hi:Int} {tg:Tg} {cp:Nat} {q:Bool} (hq:decide (lo≤a∧a≤hi)=q) (h:Has w0 M H w) (p:Pick H g [.int .i64 a] tg H') :
   Calls Tryz.prog 120 #[.int .i64 lo,.int .i64 hi,.slice (some ⟨g,0,none⟩) 1 cp] w fun e w'=>e=.returned (.bool q)∧Ext w w':=by
 have:=from_calls lo hi (some ⟨g,0,none⟩) 1 cp [a] w (Blk.rows (k:=1) (rows:=[a].map fun z=>[Value.int .i64 z]) (h.blk _ p.mem).2 rfl (by simp)) (by omega)
 have e:allFrom lo hi [a]=q:=by rw [← hq];unfold allFrom;rw [Bool.eq_iff_iff];simp
 rw [e] at this
 exact this
theorem inside_at (x y lo hi:Int) {q:Bool} (hq:decide (x≤y∧lo≤x∧y≤hi)=q) (w:World):Calls Tryz.prog 121 #[.agg #[.int .i64 x,.int .i64 y],.int .i64 lo,.int .i64 hi] w fun e w'=>e=.returned (.bool q)∧Ext w w':=by
 have:=inside_calls x y lo hi w
 have e:insideB x y lo hi=q:=by rw [← hq];unfold insideB;rw [Bool.eq_iff_iff];try (simp;try omega)
 rw [e] at this
 exact this
structure Snd (l:List Lv):Prop where
 n2:2≤l.length
 n16:l.length≤16
 ok:∀ x∈l,-500≤x.h∧x.h≤9000∧1000≤x.plo∧x.plo≤x.phi∧x.phi≤12000∧1500≤x.tlo∧x.tlo≤x.thi∧x.thi≤3500
 rise:∀ {i:Nat} {x y:Lv},l[i]?=some x→l[i+1]?=some y→1≤y.h-x.h∧y.h-x.h≤2000
end Go.Proofs.YtcjkndjjbjoehaaGreat
