/- A part of the proof: rules for walks, and contracts of functions (12). -/
import Derived.Test.YtcjkndjjbjoehaaGreatXBA
import Derived.Test.YtcjkndjjbjoehaaGreatXBI
import Derived.Test.YtcjkndjjbjoehaaGreatXBC
import Derived.Laws.IdiomCopy
import Derived.Test.YtcjkndjjbjoehaaGreatXBB
import Derived.Test.YtcjkndjjbjoehaaGreatXBH
import Derived.RangeFuncNested
import Derived.RangeFuncBound
import Derived.RangeFuncCalls
import Derived.RangeFuncLeaves
import Derived.Shelf.Abstract
import Derived.Shelf.RegionOpen
import Derived.OwnWalkIn
import Derived.TacticsInMore
import Derived.LoopNIn
import Derived.LoopIn
import Derived.Test.YtcjkndjjbjoehaaGreatXBK
set_option linter.unusedVariables false
set_option linter.unusedSimpArgs false
set_option maxRecDepth 100000
set_option maxHeartbeats 2000000
namespace Go.Proofs.YtcjkndjjbjoehaaGreat
theorem goR0e {G A1 A2 A3 A4 A5 A6 A7 A8 A9 A10 A11 A12 A13 A14 A15 A16:Prop} (p:GoP A1 A2 A3 A4 A5 A6 A7 A8 A9 A10 A11 A12 A13 A14 A15 A16) (h:GoL A1→GoL A2→GoL A3→GoL A4→GoL A5→GoL A6→GoL A7→GoL A8→GoL A9→GoL A10→GoL A11→GoL A12→GoL A13→GoL A14→GoL A15→GoL A16→GoM→G:=by intro m1 m2 m3 m4 m5 m6 m7 m8 m9 m10 m11 m12 m13 m14 m15 m16 _;(repeat' (first|((with_reducible apply oq_id);first|(focus ((with_reducible apply oq_indexAddrN);(iterate 4 exact rfl);omega))|(apply oq_fn;exact rfl;first|exact trivial|(and_intros<;>omega)|omega|skip)|((with_reducible apply oq_load);exact rfl;exact rfl))|((with_reducible apply tl_id);first|(with_reducible apply tl_nil)|((with_reducible apply u_q);(iterate 4 exact rfl))|((with_reducible apply u_s0);exact rfl;exact rfl)|((with_reducible apply u_s);(iterate 3 exact rfl)))|((with_reducible apply os_id);first|((with_reducible apply os_x);exact rfl)|((with_reducible apply os_storeAgg);(iterate 5 exact rfl)))|((with_reducible apply ox_id);first|((with_reducible apply ox_alloc);exact rfl;intro _)|((with_reducible apply ox_box);exact rfl;exact rfl;intro _))|((with_reducible apply rd_id);first|(apply Rd.old;(first|(with_reducible assumption)|exact c0|exact c1|exact c2|exact c3|exact c4|exact c5|exact c6|exact c7|exact c8|exact d0|exact d1|exact d2|exact d3|exact d4|exact d5);first|exact List.not_mem_nil|exact m0|exact m1|exact m2|exact m3|exact m4|exact m5|exact m6|exact m7|exact m8|exact m9))|((with_reducible apply t_id);first|(with_reducible apply t_seq)|(apply t_region;kernel_rfl)|(with_reducible apply t_ret))|with_reducible apply q_thenN|exact P0|((with_reducible apply Norm.nil);exact rfl)|((with_reducible apply Norm.cons);exact rfl)|(with_reducible apply end_ret)|exact rvs_nil|(with_reducible apply rvs_cons)|((with_reducible apply rv_tmp);exact rfl)|exact Nat.le_of_ble_eq_true rfl));(try focus (repeat (rename_i x;first|exact goD x m1.p|revert x)));(try focus (repeat (rename_i x;first|exact goD x m2.p|revert x)));(try focus (repeat (rename_i x;first|exact goD x m3.p|revert x)));(try focus (repeat (rename_i x;first|exact goD x m4.p|revert x)));(try focus (repeat (rename_i x;first|exact goD x m5.p|revert x)));(try focus (repeat (rename_i x;first|exact goD x m6.p|revert x)));(try focus (repeat (rename_i x;first|exact goD x m7.p|revert x)));(try focus (repeat (rename_i x;first|exact goD x m8.p|revert x)));(try focus (repeat (rename_i x;first|exact goD x m9.p|revert x)));(try focus (repeat (rename_i x;first|exact goD x m10.p|revert x)));(try focus (repeat (rename_i x;first|exact goD x m11.p|revert x)));(try focus (repeat (rename_i x;first|exact goD x m12.p|revert x)));(try focus (repeat (rename_i x;first|exact goD x m13.p|revert x)));(try focus (repeat (rename_i x;first|exact goD x m14.p|revert x)));(try focus (repeat (rename_i x;first|exact goD x m15.p|revert x)));(try focus (repeat (rename_i x;first|exact goD x m16.p|revert x)))) (e:GoTs A1 A2 A3 A4 A5 A6 A7 A8 A9 A10 A11 A12 A13 A14 A15 A16:=by constructor<;>first|(with_reducible exact GoT.t)|exact GoT.u):G:=p.run h
theorem goR1d {G A1 A2 A3 A4 A5 A6 A7 A8 A9 A10 A11 A12 A13 A14 A15 A16:Prop} (p:GoP A1 A2 A3 A4 A5 A6 A7 A8 A9 A10 A11 A12 A13 A14 A15 A16) (h:GoL A1→GoL A2→GoL A3→GoL A4→GoL A5→GoL A6→GoL A7→GoL A8→GoL A9→GoL A10→GoL A11→GoL A12→GoL A13→GoL A14→GoL A15→GoL A16→GoM→G:=by intro m1 m2 m3 m4 m5 m6 m7 m8 m9 m10 m11 m12 m13 m14 m15 m16 _;(repeat' (first|((with_reducible apply oq_id);first|((with_reducible apply oq_call (k:=kf) (hc:=hcf));exact rfl;exact rfl;exact fun D w1 hw1=>HTk w1 hw1.ext.ext)|((with_reducible apply oq_call (hc:=Tryz.call108));exact rfl;exact rfl;exact fun D w1 hw1=>HLs D w1 _ hw1 (by repeat (first|exact HpSub.refl _|apply HpSub.skipX)) (by (repeat first|exact P0|apply P1)))|((with_reducible apply ob_id);first|((with_reducible apply oq_eqlT);exact rfl;exact rfl;omega)|((with_reducible apply oq_eqlF);exact rfl;exact rfl;omega)|((with_reducible apply oq_lssT);exact rfl;exact rfl;omega)|((with_reducible apply oq_lssF);exact rfl;exact rfl;omega))|(focus ((with_reducible apply oq_indexAddrN);(iterate 4 exact rfl);omega))|(apply oq_fn;exact rfl;first|exact trivial|(and_intros<;>omega)|omega|skip)|((with_reducible apply oq_load);exact rfl;exact rfl))|((with_reducible apply tl_id);first|(with_reducible apply tl_nil)|((with_reducible apply u_q);(iterate 4 exact rfl))|((with_reducible apply u_s0);exact rfl;exact rfl))|((with_reducible apply gx_id);first|(with_reducible apply v_nil)|((with_reducible apply v_q);(iterate 3 exact rfl)))|((with_reducible apply os_id);first|((with_reducible apply (os_storePf (i:=k) (u:=if to k=false then nP else zP) (hz:=hk1) (hl:=hs)));(iterate 4 exact rfl);(rw [hto];exact rfl);(focus ((repeat first|exact P0|apply P1);done)))|((with_reducible apply (os_storePn (i:=ys.length) (u:=lstN x0 ls) (hz:=up_get hx) (hl:=up_set _ (by omega))));(iterate 3 exact rfl);(focus ((repeat first|exact P0|apply P1);done)))|((with_reducible apply os_store);(iterate 4 exact rfl)))|((with_reducible apply ai_id);first|((with_reducible apply ai_s0);(iterate 4 exact rfl)))|((with_reducible apply rd_id);first|(apply Rd.own;(repeat first|exact P0|apply P1);exact rfl;done)|(apply Rd.old;(first|(with_reducible assumption)|exact c0|exact c1|exact c2|exact c3|exact c4|exact c5|exact c6|exact c7|exact c8|exact d0|exact d1|exact d2|exact d3|exact d4|exact d5);first|exact List.not_mem_nil|exact m0|exact m1|exact m2|exact m3|exact m4|exact m5|exact m6|exact m7|exact m8|exact m9))|((with_reducible apply t_id);first|(apply t_mix (id:=5) [0,1,2,3,4,5,6,7] 1 #[false,false,false,false,false,false,false,false,true];kernel_rfl;kernel_rfl;exact rfl)|(with_reducible apply t_seq)|(apply t_region;kernel_rfl)|((with_reducible apply t_condT);exact rfl)|((with_reducible apply t_condF);exact rfl)|(with_reducible apply t_ret)|(with_reducible apply t_skip)|(with_reducible apply t_exit)|(with_reducible apply t_block))|with_reducible apply q_thenN|with_reducible apply q_blockN|with_reducible apply q_thenE|((with_reducible apply q_blockE);exact rfl)|exact P0|(with_reducible apply P1)|((with_reducible apply Norm.nil);exact rfl)|((with_reducible apply Norm.cons);exact rfl)|(with_reducible apply end_ret)|exact rvs_nil|(with_reducible apply rvs_cons)|((with_reducible apply rv_tmp);exact rfl)|((with_reducible apply al_id);first|(apply al_done;decide +kernel)|(apply al_one 8;decide +kernel))|exact Nat.le_of_ble_eq_true rfl));(try focus (repeat (rename_i x;first|exact goD x m1.p|revert x)));(try focus (repeat (rename_i x;first|exact goD x m2.p|revert x)));(try focus (repeat (rename_i x;first|exact goD x m3.p|revert x)));(try focus (repeat (rename_i x;first|exact goD x m4.p|revert x)));(try focus (repeat (rename_i x;first|exact goD x m5.p|revert x)));(try focus (repeat (rename_i x;first|exact goD x m6.p|revert x)));(try focus (repeat (rename_i x;first|exact goD x m7.p|revert x)));(try focus (repeat (rename_i x;first|exact goD x m8.p|revert x)));(try focus (repeat (rename_i x;first|exact goD x m9.p|revert x)));(try focus (repeat (rename_i x;first|exact goD x m10.p|revert x)));(try focus (repeat (rename_i x;first|exact goD x m11.p|revert x)));(try focus (repeat (rename_i x;first|exact goD x m12.p|revert x)));(try focus (repeat (rename_i x;first|exact goD x m13.p|revert x)));(try focus (repeat (rename_i x;first|exact goD x m14.p|revert x)));(try focus (repeat (rename_i x;first|exact goD x m15.p|revert x)));(try focus (repeat (rename_i x;first|exact goD x m16.p|revert x)))) (e:GoTs A1 A2 A3 A4 A5 A6 A7 A8 A9 A10 A11 A12 A13 A14 A15 A16:=by constructor<;>first|(with_reducible exact GoT.t)|exact GoT.u):G:=p.run h
open Go.RowKit
attribute [local irreducible] OQ OS OX Rd T TL GX GL AL AI RV wpG SAny Calls
structure Pn where
 p:Pl
 A:Option Addr
 n:Nat
 c:Nat
def pnCells (x:Pn):List Value:=[.int .i64 (plF x.p),.slice x.A x.n x.c,.bool x.p.isNone]
structure PnR (w:World) (x:Pn):Prop where
 r:RdS w 1 x.A x.n ((cI (plL x.p)).map inCells)
 n:x.n≤1000000
theorem PnR.ext {w w':World} {x:Pn} (h:PnR w x) (e:Ext w w'):PnR w' x:=⟨h.r.ext e,h.n⟩
theorem pn_read {w:World} {A:Option Addr} {n:Nat} {l:List Pn} (h:RdS w 3 A n (l.map pnCells)) {i:Nat} (hi:i<n) :
   ∃ b o x,A=some ⟨b,o,none⟩∧b<w.heap.size∧l[i]?=some x∧w.cell? ⟨b,o+i*3,none⟩=some (.int .i64 (plF x.p))∧w.cell? ⟨b,o+i*3+1,none⟩=some (.slice x.A x.n x.c)∧w.cell? ⟨b,o+i*3+2,none⟩=some (.bool x.p.isNone):=by
 obtain ⟨b,o,cs,hA,hb,hx,_,hc⟩:=h.row hi
 simp only [List.getElem?_map,Option.map_eq_some_iff] at hx
 obtain ⟨x,hx,rfl⟩:=hx
 exact ⟨b,o,x,hA,hb,hx,hc 0 _ rfl,hc 1 _ rfl,hc 2 _ rfl⟩
theorem RdS.tl {w:World} {k b o n:Nat} {x:List Value} {xs:List (List Value)} (h:RdS w k (some ⟨b,o,none⟩) (n+1) (x::xs)):RdS w k (some ⟨b,o+1*k,none⟩) n xs:=by
 refine ⟨by have:=h.len;simpa using this,fun hn=>?_⟩
 obtain ⟨b',o',hA,hb,hx⟩:=h.at_ (by omega)
 simp only [Option.some.injEq,Addr.mk.injEq] at hA
 obtain ⟨rfl,rfl,_⟩:=hA
 refine ⟨b,o+1*k,rfl,hb,fun i y hy=>?_⟩
 obtain ⟨h1,h2⟩:=hx (i+1) y (by simpa using hy)
 refine ⟨h1,fun j u hu=>?_⟩
 have:=h2 j u hu
 rwa [show o+(i+1)*k+j=o+1*k+i*k+j by rw [Nat.add_mul];omega] at this
theorem oq_sliceEnd {c:Cx} {F:Fr} {H:Hp} {d:Option Tmp} {ty t:TypeId} {pos:String} {af:Array Edge} {g:Option (Nat×Bool)} {x y:Operand} {a0 a1:Bool} {s0 s1 e b o l:Nat} {z0 z1:List Value} {k1:TyK} {k:IntKind} {li:Int} (ht:tyAt c.tys t=some ⟨a0,s0,z0,.slice e⟩) (he:tyAt c.tys e=some ⟨a1,s1,z1,k1⟩)
   (hx:ev F x=some (.slice (some ⟨b,o,none⟩) l l)) (hy:ev F y=some (.int k li)) (hl:li=l) :
   OQ c ⟨d,.slice t x (some y) none none,ty,pos,af,g⟩ F H (.slice (some ⟨b,o,none⟩) 0 0):=.of fun D a w ha _=>by
 subst hl
 have hk:=(c.ty ht).kind w
 have hs:=(c.ty he).size w
 simp only [execOp,Option.map,ha.ev hx,ha.ev hy]
 simp [Instr.sliceAt,Instr.slice,Instr.sliceBounds,Instr.sliceBound,asIntOf,Sem.run_bind,hk,hs,Result.andThen,go_sem,add_eq]
theorem pn_tail {w:World} {A:Option Addr} {n c:Nat} {y:Pn} {l:List Pn} (hr:RdS w 3 A (n+1) ((y::l).map pnCells)) (hc:n+1≤c) :
   ∃ (A2:Option Addr) (c2:Nat),RdS w 3 A2 n (l.map pnCells)∧∀ (F:Fr) (H:Hp) (d:Option Tmp) (ty:TypeId) (pos:String) (af:Array Edge) (g:Option (Nat×Bool)) (x:Operand) (N:Nat),ev F x=some (.slice A (n+1) c)→OQ (cx w N) ⟨d,.slice 132 x (some (.const (.int .i64 1))) none none,ty,pos,af,g⟩ F H (.slice A2 n c2):=by
 obtain ⟨b,o,rfl,_,_⟩:=hr.at_ (by omega)
 have ht:=RdS.tl hr
 by_cases h1:c=1
 · subst h1
   obtain rfl:n=0:=by omega
   have hl0:=ht.len
   simp only [List.length_map] at hl0
   obtain rfl:l=[]:=List.eq_nil_of_length_eq_zero hl0
   exact ⟨some ⟨b,o,none⟩,0,RdS.nil _ _ _,fun F H d ty pos af g x N hx=>oq_sliceEnd (l:=1) rfl rfl hx rfl rfl⟩
 · refine ⟨some ⟨b,o+1*3,none⟩,c-1,ht,fun F H d ty pos af g x N hx=>?_⟩
   have:=oq_sliceL (c:=cx w N) (H:=H) (d:=d) (ty:=ty) (t:=132) (pos:=pos) (af:=af) (g:=g) (x:=x) (y:=.const (.int .i64 1)) (l:=1) rfl rfl hx rfl rfl (by omega) h1
   rwa [show n+1-1=n by omega] at this
def lstN (y:Pn) (l:List Pn):Pn:=l.foldl (fun y x=>if better x.p y.p<0 then x else y) y
theorem lstN_snoc (y:Pn) (l:List Pn) (x:Pn):lstN y (l++[x])=if better x.p (lstN y l).p<0 then x else lstN y l:=by unfold lstN;rw [List.foldl_append];rfl
theorem lstN_p:∀ (l:List Pn) (y:Pn),(lstN y l).p=leastF y.p (l.map (·.p))
 | [],_=>rfl
 | x::l,y=>by
   show (lstN (if better x.p y.p<0 then x else y) l).p=leastF (if better x.p y.p<0 then x.p else y.p) (l.map (·.p))
   rw [lstN_p l]
   congr 1
   split<;>rfl
theorem lstN_mem:∀ (l:List Pn) (y:Pn),lstN y l=y∨lstN y l∈l
 | [],_=>.inl rfl
 | x::l,y=>by
   show lstN (if better x.p y.p<0 then x else y) l=y∨lstN (if better x.p y.p<0 then x else y) l∈x::l
   rcases lstN_mem l (if better x.p y.p<0 then x else y) with h|h
   · split at h
     · rename_i hb
       rw [if_pos hb,h]
       exact .inr (List.mem_cons_self ..)
     · rename_i hb
       rw [if_neg hb,h]
       exact .inl rfl
   · exact .inr (List.mem_cons_of_mem _ h)
theorem least_calls (A:Option Addr) (n c:Nat) (y:Pn) (l:List Pn) (w:World) (hr:RdS w 3 A (n+1) ((y::l).map pnCells)) (hc:n+1≤c) (hn:n≤1000000) (hp:∀ x∈y::l,PnR w x):Calls Tryz.prog 108 #[.slice A (n+1) c,.func (.func 109) #[] #[]] w fun e w'=>e=.returned (.agg ⟨pnCells (lstN y l)⟩)∧Ext w w':=by
 obtain ⟨A2,c2,ht,hSl⟩:=pn_tail hr hc
 have hl:l.length=n:=by have:=ht.len;simpa using this
 obtain ⟨bA,oA,y',rfl,_,hy,c0,c1,c2'⟩:=pn_read hr (show 0<n+1 by omega)
 obtain rfl:=Option.some.inj hy
 rw [show oA+0*3=oA by omega] at c0 c1 c2'
 have d0:=c0
 have d1:=c1
 have d2:=c2'
 clear c0 c1 c2' hr
 refine enterQ (c:=cx w 26) Tryz.func108 rfl rfl rfl rfl ?_
 ((all_goals refine goD1e ?_);(all_goals constructor);(any_goals exact trivial);all_goals intros)
 rename_i b4 b5
 apply t_loopK (ι:=Nat) [1,4,5,12,13] (fun k=>[(14,.int .i64 ((k:Nat):Int))]) (fun k=>[(b4,[.int .i64 0,.slice none 0 0,.bool false],some (131,3,1)),(b5,[.int .i64 (plF (lstN y (l.take k)).p),.slice (lstN y (l.take k)).A (lstN y (l.take k)).n (lstN y (l.take k)).c,.bool (lstN y (l.take k)).p.isNone],some (131,3,1))]) (fun k=>k≤n) (fun k=>n-k) (0)
 (repeat (first|exact KeepF.nil|(apply KeepF.cons;exact rfl)|apply KeepF.skip))
 (repeat first|exact FrSub.nil|(apply FrSub.cons;exact rfl))
 (repeat (first|exact HpSub.refl _|(apply HpSub.consE;(repeat first|exact P0|apply P1);exact rfl)|exact HpSub.nil))
 · exact Nat.zero_le _
 rintro k hk
 try simp only [List.cons_append,List.nil_append]
 have hR:PnR w (lstN y (l.take k)):=by
   rcases lstN_mem (l.take k) y with h|h
   · rw [h];exact hp _ (List.mem_cons_self ..)
   · exact hp _ (List.mem_cons_of_mem _ (List.mem_of_mem_take h))
 by_cases hlt:k<n
 · obtain ⟨b2,o2,x,rfl,_,hx,c0,c1,c2'⟩:=pn_read ht hlt
   have c2:=c2'
   clear c2'
   have hX:=hp x (List.mem_cons_of_mem _ (List.mem_of_getElem? hx))
   have hs:lstN y (l.take (k+1))=if better x.p (lstN y (l.take k)).p<0 then x else lstN y (l.take k):=by rw [List.take_add_one,hx];exact lstN_snoc _ _ _
   generalize lstN y (l.take k)=u at *
   have HB:=fun w1 (e:Ext w w1)=>better_calls x.p u.p x.A u.A x.n x.c u.n u.c w1 (hX.r.ext e) (hR.r.ext e) hX.n hR.n
   unfold plCells at HB
   by_cases hb:better x.p u.p<0
   · rw [if_pos hb] at hs
     ((all_goals refine goD1e ?_);(all_goals constructor);(any_goals exact trivial);all_goals intros)
     all_goals (refine ⟨k+1,by omega,by omega,?_,?_⟩<;>(try simp only [hs])<;>(repeat' (first|exact FrSub.nil|(apply FrSub.cons;exact rfl)|(apply HpSub.consE;(repeat first|exact P0|apply P1);exact rfl)|exact HpSub.nil)))
   · rw [if_neg hb] at hs
     ((all_goals refine goD1e ?_);(all_goals constructor);(any_goals exact trivial);all_goals intros)
     all_goals (refine ⟨k+1,by omega,by omega,?_,?_⟩<;>(try simp only [hs])<;>(repeat' (first|exact FrSub.nil|(apply FrSub.cons;exact rfl)|(apply HpSub.consE;(repeat first|exact P0|apply P1);exact rfl)|exact HpSub.nil)))
 · obtain rfl:k=n:=by omega
   rw [List.take_of_length_le (by omega)] at *
   unfold pnCells
   ((all_goals refine goD1e ?_);(all_goals constructor);(any_goals exact trivial);all_goals intros)
   all_goals rfl
end Go.Proofs.YtcjkndjjbjoehaaGreat
namespace Go.Proofs.YtcjkndjjbjoehaaGreat
open Go.RowKit
section
variable {c:Cx} {F:Fr} {H H':Hp} {K:Value→Hp→Prop} {d:Option Tmp} {ty:TypeId} {pos:String} {af:Array Edge} {gd:Option (Nat×Bool)} {t t':TypeId} {x y:Operand} {a0 a1:Bool} {s0 s1:Nat} {z0 z1:List Value} {k1:TyK} {g:Nat} {tg:Tg} {C:List Value}
theorem oq_sliceH {e b o len cap h:Nat} {k:IntKind} {hi:Int} (ht:tyAt c.tys t=some ⟨a0,s0,z0,.slice e⟩) (he:tyAt c.tys e=some ⟨a1,s1,z1,k1⟩)
   (hx:ev F x=some (.slice (some ⟨b,o,none⟩) len cap)) (hy:ev F y=some (.int k hi)) (hl:hi=h) (h1:h≤cap) :
   OQ c ⟨d,.slice t x none (some y) none,ty,pos,af,gd⟩ F H (.slice (some ⟨b,o,none⟩) h cap):=.of fun D a w ha _=>by
 subst hl
 have hk:=(c.ty ht).kind w
 have hs:=(c.ty he).size w
 simp only [execOp,Option.map,ha.ev hx,ha.ev hy]
 by_cases h2:cap=0
 · subst h2
   simp [Instr.sliceAt,Instr.slice,Instr.sliceBounds,Instr.sliceBound,asIntOf,Sem.run_bind,hk,hs,h1,Result.andThen,go_sem,add_eq]
 · simp [Instr.sliceAt,Instr.slice,Instr.sliceBounds,Instr.sliceBound,asIntOf,Sem.run_bind,hk,hs,h1,h2,Result.andThen,go_sem,add_eq]
theorem Rds.own {b:Nat} (hp:Pick H b C tg H'):∀ (vs:List Value) (o:Nat),(∀ j v,vs[j]?=some v→C[o+j]?=some v)→Rds c H b o vs
 | [],_,_=>trivial
 | v::vs,o,h=>⟨Rd.own hp (h 0 v rfl),Rds.own hp vs (o+1) fun j u hj=>by have:=h (j+1) u (by simpa using hj);rw [← this];congr 1;omega⟩
end
theorem run_append_zeros {P:Program} (w:World) (t tx ty e:TypeId) (i:TypeInfo) (z:Value) (ht:P.underlying t=some (.slice e)) (hx:P.underlying tx=some (.int .i64)) (hi:P.info? e=some i) (hz:i.zero=some z) (hs:0<i.size)
   (n:Nat) (h0:0<n) (h63:(n:Int)≤9223372036854775807) (h48:n*i.bytes≤281474976710656) :
   (Builtin.append_ #[t,tx] ty #[.slice none 0 0,.int .i64 (n:Int)]).run P w =
     .ok (.slice (some ⟨w.heap.size,0,none⟩) n (grownCap w n 0 e)) (w.drew.alloc (.cells (Builtin.zeroCells z.cells n++Builtin.zeroCells z.cells (grownCap w n 0 e-n)) e)):=by
 have hn:n≠0:=by omega
 have h63':¬ (9223372036854775807<(n:Int)):=by omega
 have h48':¬ (281474976710656<Builtin.nextslicecap n 0*i.bytes):=by rw [nextslicecap_zero h0];omega
 have h48i:¬ (281474976710656<(n:Int)*(i.bytes:Int)):=by
   have:((n*i.bytes:Nat):Int)≤281474976710656:=by omega
   rw [Int.natCast_mul] at this;omega
 have hw:IntKind.i64.wrap (n:Int)=(n:Int):=IntWalk.i64_in _ (by omega)
 have hz0:¬ (n*i.size=0):=by have:=Nat.mul_pos h0 hs;omega
 have hz1:¬ (n=0∨i.size=0):=by omega
 have hneg:¬ ((n:Int)<0):=by omega
 simp [Builtin.append_,run_underlying ht,run_underlying hx,sizeOf,typeInfo,zeroValue,hi,hz,asInt,asIntOf,hw,hneg,hn,h63',h48',h48i,hz0,hz1,Question.forced,newRow,grownCap,run_firstCells_none]
theorem os_appendZ {c:Cx} {F:Fr} {H:Hp} {K:Value→Hp→Prop} {d:Option Tmp} {ty:TypeId} {pos:String} {af:Array Edge} {g:Option (Nat×Bool)} {s x:Operand} {t tx e size bytes n:Nat} (hk:AppOk c.P t e size bytes) (hti:c.P.underlying tx=some (.int .i64)) (hs:ev F s=some (.slice none 0 0)) (hx:ev F x=some (.int .i64 (n:Int))) (h0:0<n) (hb:n*bytes≤281474976710656) (hn:n≤maxLen)
   (k:∀ b cap,n≤cap→K (.slice (some ⟨b,0,none⟩) n cap) ((b,[],some (e,size,cap))::H)):OS c ⟨d,.call ⟨.builtin .append,#[s,x],#[t,tx]⟩,ty,pos,af,g⟩ F H K:=by
 intro D a w ha hw
 obtain ⟨i,z,k1,k2,k3,k4,k5⟩:=hk.info
 have hp:=hk.pos
 have r:=run_append_zeros (P:=c.P) w t tx ty e i z hk.und hti k1 k2 (by omega) n h0 (by unfold maxLen at hn;omega) (by rw [k4];exact hb)
 have:(execOp a.eval ⟨d,.call ⟨.builtin .append,#[s,x],#[t,tx]⟩,ty,pos,af,g⟩).run c.P w=.ok (.value (.slice (some ⟨w.heap.size,0,none⟩) n (grownCap w n 0 e))) (w.drew.alloc (.cells (Builtin.zeroCells z.cells n++Builtin.zeroCells z.cells (grownCap w n 0 e-n)) e)):=by
   simp [execOp,resolve,invoke,builtin,Sem.run_bind,Sem.run_pure,Result.andThen,ha.ev hs,ha.ev hx,r]
 rw [this]
 have hge:=grownCap_ge w n 0 e
 refine ⟨_,k w.heap.size _ hge,hw.fresh ((Ext.refl w).drew.alloc _) (Nat.le_refl _) (.inl ⟨_,e,heap_alloc_new w.drew _,fun o v h=>(by simp at h),rfl,?_,grownCap_le_maxLen w n 0 e hn⟩)⟩
 rw [Array.size_append,size_zeroCells,size_zeroCells,k5,← Nat.add_mul]
 congr 1
 omega
theorem os_appendU {c:Cx} {F:Fr} {H H':Hp} {C:List Value} {K:Value→Hp→Prop} {d:Option Tmp} {ty:TypeId} {pos:String} {af:Array Edge} {g:Option (Nat×Bool)} {s x:Operand} {t e size bytes m c2 n cap gb:Nat} {A:Option Addr} {rows:List (List Value)} (hk:AppOk c.P t e size bytes) (hs:ev F s=some (.slice (some ⟨gb,0,none⟩) n cap)) (hx:ev F x=some (.slice A m c2))
   (hp:Pick H gb C (some (e,size,cap)) H') (hr:∀ D w,Has c.w0 ⟨c.M,D⟩ H w→RdS w size A m rows) (hrk:∀ r∈rows,r.length=size) (hC:C.length=n*size) (h1:∀ r∈rows,∀ u∈r,u.oneCell'=true) (hb:(n+m)*bytes≤140737488355328) (hmax:n+m≤9223372036854775807)
   (k:∀ b cap',K (.slice (some ⟨b,0,none⟩) (n+m) cap') ((b,C++rows.flatten,some (e,size,cap'))::H')):OS c ⟨d,.call ⟨.builtin .append,#[s,x],#[t,t]⟩,ty,pos,af,g⟩ F H K:=by
 intro D a w ha hw
 have hw':=hw.perm hp.perm
 obtain ⟨_,h|⟨g',cap',cur,hv,_,_,h2,_⟩⟩:=own_of_blk (hw'.blk _ (List.mem_cons_self ..)).2 hC hk.pos
 · cases h.1
 · simp only [Value.slice.injEq] at hv
   obtain ⟨_,_,rfl⟩:=hv
   exact os_appendRows hk hs hx hp hr hrk hC h1 h2 hb hmax k D a w ha hw
theorem oq_cap {c:Cx} {F:Fr} {H:Hp} {d:Option Tmp} {ty:TypeId} {pos:String} {af:Array Edge} {g:Option (Nat×Bool)} {x:Operand} {A:Option Addr} {n cp:Nat} {t e s0:Nat} {a0:Bool} {z0:List Value} (ht:tyAt c.tys t=some ⟨a0,s0,z0,.slice e⟩) (hx:ev F x=some (.slice A n cp)) :
   OQ c ⟨d,.call ⟨.builtin .cap,#[x],#[t]⟩,ty,pos,af,g⟩ F H (.int .i64 ((cp:Nat):Int)):=.of fun D a w ha _=>by
 have hk:=(c.ty ht).kind w
 simp [execOp,resolve,invoke,builtin,ha.ev hx,Builtin.cap_,hk,Sem.run_bind,Sem.run_pure,Result.andThen,goInt]
theorem oq_sliceNil {c:Cx} {F:Fr} {H:Hp} {d:Option Tmp} {ty t:TypeId} {pos:String} {af:Array Edge} {g:Option (Nat×Bool)} {x y:Operand} {a0 a1:Bool} {s0 s1 e:Nat} {z0 z1:List Value} {k1:TyK} {k:IntKind} {hi:Int} (ht:tyAt c.tys t=some ⟨a0,s0,z0,.slice e⟩) (he:tyAt c.tys e=some ⟨a1,s1,z1,k1⟩)
   (hx:ev F x=some (.slice none 0 0)) (hy:ev F y=some (.int k hi)) (h0:hi=0) :
   OQ c ⟨d,.slice t x none (some y) none,ty,pos,af,g⟩ F H (.slice none 0 0):=.of fun D a w ha _=>by
 subst h0
 have hk:=(c.ty ht).kind w
 have hs:=(c.ty he).size w
 simp only [execOp,Option.map,ha.ev hx,ha.ev hy]
 simp [Instr.sliceAt,Instr.slice,Instr.sliceBounds,Instr.sliceBound,asIntOf,Sem.run_bind,hk,hs,Result.andThen,go_sem,add_eq]
end Go.Proofs.YtcjkndjjbjoehaaGreat
namespace Go.Proofs.YtcjkndjjbjoehaaGreat
open Go.RowKit
attribute [local irreducible] OQ OS OX Rd T TL GX GL AL AI RV wpG SAny Calls
def GrowV (n:Nat) (u:Value) (H:Hp):Prop:=∃ b cap,n≤cap∧u=.slice (some ⟨b,0,none⟩) 0 cap∧H=[(b,[],some (3,1,cap))]
theorem grow_calls (n:Nat) (h0:0<n) (hn:n≤1000000) (w:World):Calls Tryz.prog 132 #[.slice none 0 0,.int .i64 (n:Nat)] w fun e w'=>∃ u H',e=.returned u∧GrowV n u H'∧Has w ⟨[],[]⟩ H' w':=by
 refine enterF (c:=cx w 27) Tryz.func132 rfl rfl rfl rfl ?_
 repeat' (first|((with_reducible apply oq_id);first|((with_reducible apply oq_cap);exact rfl;exact rfl)|((with_reducible apply oq_sliceNil);(iterate 4 exact rfl);(first|exact rfl|omega))|((with_reducible apply (oq_sliceH (h:=0)));(iterate 4 exact rfl);(first|exact rfl|omega);omega)|(focus ((with_reducible apply (oq_subE (k:=0)));exact rfl;exact rfl;omega))|(focus ((with_reducible apply (oq_subE (k:=(n:Int))));exact rfl;exact rfl;omega))|((with_reducible apply oq_lssF);exact rfl;exact rfl;omega)|((with_reducible apply oq_gtrT);exact rfl;exact rfl;omega)|(apply oq_fn;exact rfl;first|exact trivial|(and_intros<;>omega)|omega|skip))|((with_reducible apply tl_id);first|(with_reducible apply tl_nil)|((with_reducible apply u_s);(iterate 3 exact rfl);((with_reducible apply (os_appendZ (hk:=app_ok31) (n:=n)));exact Tryz.underlying3;exact rfl;exact rfl;exact h0;omega;(unfold maxLen;omega);intro b cap hcap))|((with_reducible apply u_q);(iterate 4 exact rfl)))|((with_reducible apply t_id);first|(with_reducible apply t_seq)|(apply t_region;kernel_rfl)|((with_reducible apply t_condT);exact rfl)|((with_reducible apply t_condF);exact rfl)|(with_reducible apply t_ret)|(with_reducible apply t_skip))|with_reducible apply q_thenN|(with_reducible apply end_ret)|exact rvs_nil|(with_reducible apply rvs_cons)|((with_reducible apply rv_tmp);exact rfl))
 all_goals (refine ⟨_,⟨_,_,hcap,rfl,rfl⟩,?_⟩;(try simp only [List.append_nil]);exact HpSub.refl _)
theorem in_flat (l:List Int):(l.map inCells).flatten=l.map iv:=by
 induction l with
 | nil=>rfl
 | cons a l ih=>simp only [List.map_cons,List.flatten_cons,ih];rfl
theorem in_rows_len {l:List Int}:∀ r∈l.map inCells,r.length=1:=by
 intro r hr
 obtain ⟨x,_,rfl⟩:=List.mem_map.1 hr
 rfl
theorem in_rows_one {l:List Int}:∀ r∈l.map inCells,∀ u∈r,u.oneCell'=true:=by
 intro r hr u hu
 obtain ⟨x,_,rfl⟩:=List.mem_map.1 hr
 simp only [inCells,List.mem_singleton] at hu
 subst hu;rfl
def OwnI (l:List Int) (n:Nat) (u:Value) (H:Hp):Prop:=∃ b cap,u=.slice (some ⟨b,0,none⟩) n cap∧H=[(b,l.map iv,some (3,1,cap))]
theorem concat_calls (A:Option Addr) (c:Nat) (X Y:Option Addr) (nx cx' ny cy:Nat) (l1 l2:List Int) (w:World) (hr:RdS w 1 A 2 [[.slice X nx cx'],[.slice Y ny cy]]) (h1:RdS w 1 X nx (l1.map inCells)) (h2:RdS w 1 Y ny (l2.map inCells)) (h0:0<nx+ny) (hn:nx+ny≤1000000):Calls Tryz.prog 107 #[.slice A 2 c] w fun e w'=>∃ u H',e=.returned u∧OwnI (l1++l2) (nx+ny) u H'∧Has w ⟨[],[]⟩ H' w':=by
 have e1:l1.length=nx:=by have:=h1.len;simpa using this
 have e2:l2.length=ny:=by have:=h2.len;simpa using this
 obtain ⟨bA,oA,x0,rfl,_,hx0,_,hc0⟩:=hr.row (show 0<2 by omega)
 obtain ⟨bB,oB,x1,hA,_,hx1,_,hc1⟩:=hr.row (show 1<2 by omega)
 simp only [Option.some.injEq,Addr.mk.injEq] at hA
 obtain ⟨rfl,rfl,_⟩:=hA
 simp only [List.getElem?_cons_zero,List.getElem?_cons_succ,Option.some.injEq] at hx0 hx1
 subst hx0
 subst hx1
 have c0:=hc0 0 _ rfl
 have c1:=hc1 0 _ rfl
 clear hc0 hc1
 refine enterF (c:=cx w 36) Tryz.func107 rfl rfl rfl rfl ?_
 ((all_goals refine goD0e ?_);(all_goals constructor);(any_goals exact trivial);all_goals intros)
 apply t_loopK (ι:=Nat) [0,9,10] (fun k=>[(11,.int .i64 ((k:Nat):Int)),(3,.int .i64 ((if k=0 then 0 else if k=1 then nx else nx+ny:Nat):Int))]) (fun _=>[]) (fun k=>k≤2) (fun k=>2-k) (0)
 (repeat (first|exact KeepF.nil|(apply KeepF.cons;exact rfl)|apply KeepF.skip))
 (repeat first|exact FrSub.nil|(apply FrSub.cons;exact rfl))
 (repeat (first|exact HpSub.refl _|(apply HpSub.consE;(repeat first|exact P0|apply P1);exact rfl)|exact HpSub.nil))
 · exact Nat.zero_le _
 rintro k hk
 try simp only [List.cons_append,List.nil_append]
 by_cases hlt:k<2
 · rcases (show k=0∨k=1 by omega) with rfl|rfl
   · simp only [if_true]
     ((all_goals refine goD1e ?_);(all_goals constructor);(any_goals exact trivial);all_goals intros)
     all_goals (refine ⟨1,by omega,by omega,?_,?_⟩<;>(try simp only [show ¬ (1=0) by omega,if_false,if_true])<;>(repeat' (first|exact FrSub.nil|(apply FrSub.cons;exact rfl)|exact HpSub.refl _)))
   · simp only [show ¬ (1=0) by omega,if_false,if_true]
     ((all_goals refine goD1e ?_);(all_goals constructor);(any_goals exact trivial);all_goals intros)
     all_goals (refine ⟨2,by omega,by omega,?_,?_⟩<;>(try simp only [show ¬ (2=0) by omega,show ¬ (2=1) by omega,if_false,if_true])<;>(repeat' (first|exact FrSub.nil|(apply FrSub.cons;exact rfl)|exact HpSub.refl _)))
 obtain rfl:k=2:=by omega
 simp only [show ¬ (2=0) by omega,show ¬ (2=1) by omega,if_false,if_true]
 repeat' (first|((with_reducible apply oq_id);first|((with_reducible apply oq_lssF);exact rfl;exact rfl;omega)|(apply oq_fn;exact rfl;first|exact trivial|(and_intros<;>omega)|omega|skip))|((with_reducible apply tl_id);first|(with_reducible apply tl_nil)|((with_reducible apply u_s);(iterate 3 exact rfl);(with_reducible apply os_callF (PV:=GrowV (nx+ny)) (hc:=Tryz.call132));exact rfl;exact rfl;exact fun D w1 hw1=>grow_calls (nx+ny) h0 (by omega) w1;rintro _ _ ⟨b,cap,hcap,rfl,rfl⟩;simp only [List.cons_append,List.nil_append])|((with_reducible apply u_q);(iterate 4 exact rfl)))|((with_reducible apply t_id);first|(with_reducible apply t_seq)|(apply t_region;kernel_rfl)|((with_reducible apply t_condF);exact rfl)|(with_reducible apply t_exit)|(with_reducible apply t_block))|with_reducible apply q_thenN|with_reducible apply q_thenE|((with_reducible apply q_blockE);exact rfl))
 apply t_loopK (ι:=Nat×Nat×Nat) [0,25,26] (fun z=>[(27,.int .i64 ((z.1:Nat):Int)),(6,.slice (some ⟨z.2.1,0,none⟩) (if z.1=0 then 0 else if z.1=1 then nx else nx+ny) z.2.2)]) (fun z=>[(z.2.1,(if z.1=0 then [] else if z.1=1 then l1 else l1++l2).map iv,some (3,1,z.2.2))]) (fun z=>z.1≤2) (fun z=>2-z.1) ((0,b,cap))
 (repeat (first|exact KeepF.nil|(apply KeepF.cons;exact rfl)|apply KeepF.skip))
 (repeat first|exact FrSub.nil|(apply FrSub.cons;exact rfl))
 (repeat (first|exact HpSub.refl _|(apply HpSub.consE;(repeat first|exact P0|apply P1);exact rfl)|exact HpSub.nil))
 · exact Nat.zero_le _
 rintro ⟨k,g,cg⟩ hk
 simp only at hk
 try simp only [List.cons_append,List.nil_append]
 by_cases hlt:k<2
 · rcases (show k=0∨k=1 by omega) with rfl|rfl
   · simp only [if_true]
     repeat' (first|((with_reducible apply oq_id);first|(focus ((with_reducible apply oq_indexAddrN);(iterate 4 exact rfl);omega))|((with_reducible apply oq_lssT);exact rfl;exact rfl;omega)|(apply oq_fn;exact rfl;first|exact trivial|(and_intros<;>omega)|omega|skip)|((with_reducible apply oq_load);exact rfl;exact rfl))|((with_reducible apply tl_id);first|(with_reducible apply tl_nil)|((with_reducible apply u_s);(iterate 3 exact rfl);((with_reducible apply (os_appendU (hk:=app_ok31) (rows:=l1.map inCells)));exact rfl;exact rfl;(repeat first|exact P0|apply P1);exact fun D w1 hw1=>h1.ext hw1.ext.ext;exact in_rows_len;(first|exact rfl|(simp;omega));exact in_rows_one;omega;omega;intro bN cN))|((with_reducible apply u_q);(iterate 4 exact rfl)))|((with_reducible apply rd_id);first|(apply Rd.old;(first|(with_reducible assumption)|exact c0|exact c1|exact c2|exact c3|exact c4|exact c5|exact c6|exact c7|exact c8|exact d0|exact d1|exact d2|exact d3|exact d4|exact d5);first|exact List.not_mem_nil|exact m0|exact m1|exact m2|exact m3|exact m4|exact m5|exact m6|exact m7|exact m8|exact m9))|((with_reducible apply t_id);first|(with_reducible apply t_seq)|(apply t_region;kernel_rfl)|((with_reducible apply t_condT);exact rfl)|(with_reducible apply t_skip)|(with_reducible apply t_block))|with_reducible apply q_thenN|with_reducible apply q_blockN)
     all_goals (refine ⟨(1,bN,cN),by simp only;omega,by simp only;omega,?_,?_⟩<;>(try simp only [show ¬ (1=0) by omega,if_false,if_true,in_flat,List.map_nil,List.nil_append,Nat.zero_add])<;>(repeat' (first|exact FrSub.nil|(apply FrSub.cons;exact rfl)|exact HpSub.refl _)))
   · simp only [show ¬ (1=0) by omega,if_false,if_true]
     repeat' (first|((with_reducible apply oq_id);first|(focus ((with_reducible apply oq_indexAddrN);(iterate 4 exact rfl);omega))|((with_reducible apply oq_lssT);exact rfl;exact rfl;omega)|(apply oq_fn;exact rfl;first|exact trivial|(and_intros<;>omega)|omega|skip)|((with_reducible apply oq_load);exact rfl;exact rfl))|((with_reducible apply tl_id);first|(with_reducible apply tl_nil)|((with_reducible apply u_s);(iterate 3 exact rfl);((with_reducible apply (os_appendU (hk:=app_ok31) (rows:=l2.map inCells)));exact rfl;exact rfl;(repeat first|exact P0|apply P1);exact fun D w1 hw1=>h2.ext hw1.ext.ext;exact in_rows_len;(first|exact rfl|(simp;omega));exact in_rows_one;omega;omega;intro bN cN))|((with_reducible apply u_q);(iterate 4 exact rfl)))|((with_reducible apply rd_id);first|(apply Rd.old;(first|(with_reducible assumption)|exact c0|exact c1|exact c2|exact c3|exact c4|exact c5|exact c6|exact c7|exact c8|exact d0|exact d1|exact d2|exact d3|exact d4|exact d5);first|exact List.not_mem_nil|exact m0|exact m1|exact m2|exact m3|exact m4|exact m5|exact m6|exact m7|exact m8|exact m9))|((with_reducible apply t_id);first|(with_reducible apply t_seq)|(apply t_region;kernel_rfl)|((with_reducible apply t_condT);exact rfl)|(with_reducible apply t_skip)|(with_reducible apply t_block))|with_reducible apply q_thenN|with_reducible apply q_blockN)
     all_goals (refine ⟨(2,bN,cN),by simp only;omega,by simp only;omega,?_,?_⟩<;>(try simp only [show ¬ (2=0) by omega,show ¬ (2=1) by omega,if_false,if_true,in_flat,List.map_append])<;>(repeat' (first|exact FrSub.nil|(apply FrSub.cons;exact rfl)|exact HpSub.refl _)))
 obtain rfl:k=2:=by omega
 simp only [show ¬ (2=0) by omega,show ¬ (2=1) by omega,if_false,if_true]
 ((all_goals refine goD1e ?_);(all_goals constructor);(any_goals exact trivial);all_goals intros)
 all_goals exact ⟨_,⟨g,cg,rfl,rfl⟩,by (try simp only [List.append_nil]);exact HpSub.refl _⟩
theorem pn_len {l:List Pn}:∀ r∈l.map pnCells,r.length=3:=by
 intro r hr
 obtain ⟨x,_,rfl⟩:=List.mem_map.1 hr
 rfl
theorem pn_one {l:List Pn}:∀ r∈l.map pnCells,∀ u∈r,u.oneCell'=true:=by
 intro r hr u hu
 obtain ⟨x,_,rfl⟩:=List.mem_map.1 hr
 simp only [pnCells,List.mem_cons,List.not_mem_nil,or_false] at hu
 rcases hu with rfl|rfl|rfl<;>rfl
def OwnP (l:List Pn) (n:Nat) (u:Value) (H:Hp):Prop:=∃ b cap,u=.slice (some ⟨b,0,none⟩) n cap∧H=[(b,(l.map pnCells).flatten,some (131,3,cap))]
theorem pnF_len (l:List Pn):((l.map pnCells).flatten).length=l.length*3:=by
 induction l with
 | nil=>rfl
 | cons a l ih=>simp only [List.map_cons,List.flatten_cons,List.length_append,ih,List.length_cons,pnCells,List.length_nil];omega
theorem cloneP_calls (g o n c:Nat) (l:List Pn) (w:World) (hr:RdS w 3 (some ⟨g,o,none⟩) n (l.map pnCells)) (hn:n≤1000000):Calls Tryz.prog 105 #[.slice (some ⟨g,o,none⟩) n c] w fun e w'=>∃ u H',e=.returned u∧OwnP l n u H'∧Has w ⟨[],[]⟩ H' w':=by
 refine enterF (c:=cx w 8) Tryz.func105 rfl rfl rfl rfl ?_
 repeat' (first|((with_reducible apply oq_id);first|((with_reducible apply oq_eqNil);(iterate 3 exact rfl))|(apply oq_fn;exact rfl;first|exact trivial|(and_intros<;>omega)|omega|skip))|((with_reducible apply tl_id);first|(with_reducible apply tl_nil)|((with_reducible apply u_s);(iterate 3 exact rfl);((with_reducible apply (os_appendU (hk:=app_ok132) (rows:=l.map pnCells)));exact rfl;exact rfl;(repeat first|exact P0|apply P1);exact fun D w1 hw1=>hr.ext hw1.ext.ext;exact pn_len;exact rfl;exact pn_one;omega;omega;intro bN cN))|((with_reducible apply u_q);(iterate 4 exact rfl))|((with_reducible apply u_s);(iterate 3 exact rfl)))|((with_reducible apply os_id);first|((with_reducible apply os_x);exact rfl))|((with_reducible apply ox_id);first|((with_reducible apply ox_buildSlice);(iterate 4 exact rfl)))|((with_reducible apply t_id);first|(with_reducible apply t_seq)|(apply t_region;kernel_rfl)|((with_reducible apply t_condF);exact rfl)|(with_reducible apply t_ret)|(with_reducible apply t_skip))|with_reducible apply q_thenN|((with_reducible apply Norm.nil);exact rfl)|(with_reducible apply end_ret)|exact rvs_nil|(with_reducible apply rvs_cons)|((with_reducible apply rv_tmp);exact rfl)|exact (rfl:(_:Bool)=true)|(intro _;with_reducible apply tl_id))
 all_goals (refine ⟨_,⟨bN,cN,(by first|rfl|(rw [Nat.zero_add];rfl)),rfl⟩,?_⟩;(try simp only [List.append_nil,List.nil_append]);exact HpSub.refl _)
end Go.Proofs.YtcjkndjjbjoehaaGreat
namespace Go.Proofs.YtcjkndjjbjoehaaGreat
open Go.RowKit
def KeepT (e:TypeId) (W W':World):Prop:=∀ (b:Nat) (cs:Array Value) (fr:Nat×Nat),W.heap[b]?=some (Obj.cells cs e fr)→W'.heap[b]?=W.heap[b]?
theorem KeepT.trans {e:TypeId} {A B C:World} (h:KeepT e A B) (k:KeepT e B C):KeepT e A C:=fun b cs fr hb=>(k b cs fr ((h b cs fr hb).trans hb)).trans (h b cs fr hb)
theorem KeepT.put {e:TypeId} {W:World} {l:Nat} {o o':Obj} (ho:W.heap[l]?=some o) (hc:o.isCells=false):KeepT e W (W.putObj l o'):=fun b cs fr hb=>by
 by_cases h:b=l
 · subst h
   rw [ho] at hb
   obtain rfl:=Option.some.inj hb
   simp [Obj.isCells] at hc
 · exact World.putObj_heap_other h
def NoT (e:TypeId) (H:Hp):Prop:=∀ x∈H,∃ t s cap,x.2.2=some (t,s,cap)∧t≠e
theorem NoT.cells {e:TypeId} {H:Hp} (h:NoT e H) (hm:NoM H) {y:Nat×List Value×Tg} (hy:y∈H) {W:World} (hb:Blk W y.1 y.2.1 y.2.2) {cs:Array Value} {fr:Nat×Nat} (hc:W.heap[y.1]?=some (.cells cs e fr)):False:=by
 obtain ⟨t,s,cap,e1,e2⟩:=h y hy
 rcases hb with ⟨c,t',k1,_,k3⟩|⟨_,t',L,k1,_⟩
 · rw [e1] at k3
   rw [hc] at k1
   simp only [Option.some.injEq,Obj.cells.injEq] at k1
   exact e2 (by rw [← k3.1];exact k1.2.1.symm)
 · exact hm y hy t' L k1
section
variable {c:Cx} {F:Fr} {H:Hp} {g:Operand} {ps:Array Tmp} {assign body:Code} {α ι κ β:Type} {Q:QS}
theorem range_bodyT (e0:TypeId) {m N:Nat} {ns:List Nat} {hk:Hp} {encs:α→List Value} {hp:ι→Hp} {Pi:List α→ι→Prop} {bx:α→β→Hp} {fx:α→β→Fr} {hl:κ→Hp} {Pl:Code→List α→κ→Prop}
   (R:RangeOk c F ns hk ps assign body m encs N hp Pi bx fx hl Pl) {D:List Nat} (n0:Nat) (l:Nat) (pre:List α) (x:α) (i:ι) (bs:β) (a':Act) (W:World) (hnt:∀ x bs i,NoT e0 (bx x bs++hp i)) (hi:Pi pre i) (hw:Has c.w0 ⟨c.M,D⟩ (bx x bs++hp i++hk) W) (hlen:pre.length<N) (hr:∃ r,W.heap[l]?=some (.loop r)) (hmi:∀ b,MiOf c hk b→b<n0)
   (ha:Frm [] c.N (fx x bs) a') (hn:n0≤W.heap.size) :
   body.wpIn (Fence.wide.inRound l) m c.P (ownPostG n0 (fun A B=>KeepB (MiOf c hk) A B∧KeepT e0 A B) (fun xs W'=>∃ j,Pi xs j∧Has c.w0 ⟨c.M,D⟩ (hp j++hk) W'∧n0≤W'.heap.size) (fun k xs W'=>∃ j,Pl k xs j∧Has c.w0 ⟨c.M,D⟩ (hl j++hk) W') (pre++[x]) W) a' W:=by
 have hself:Has W ⟨(bx x bs++hp i).map Prod.fst,[]⟩ (bx x bs++hp i) W:=by
   refine ⟨ExtM.refl _ _,fun y hy=>⟨.inr (List.mem_map.2 ⟨y,hy,rfl⟩),(hw.blk y (List.mem_append_left _ hy)).2⟩,?_,List.nodup_nil,fun k hk=>(List.not_mem_nil hk).elim⟩
   have:=hw.nodup
   rw [List.map_append,List.nodup_append] at this
   exact this.1
 have h:=R.body_ l pre x i bs W D hi hw hlen hr [] a' W ha hself
 refine wpIn_mono h fun e a2 W' he=>?_
 obtain ⟨D',F',H',h1,h2,h3⟩:=he
 have hk0:KeepsFrom n0 W W':=h3.ext.keeps (fun b hb=>by
   obtain ⟨x0,hx0,rfl⟩:=List.mem_map.1 hb
   exact ((R.nob x bs).app (R.nop i)).cells hx0 (hw.blk x0 (List.mem_append_left _ hx0)).2)
 have hB:KeepB (MiOf c hk) W W':=fun b hb=>h3.ext.block b (Nat.lt_of_lt_of_le (hmi b hb) hn) (fun hm=>by
   rcases hb with hb|hb
   · obtain ⟨y,hy,rfl⟩:=List.mem_map.1 hm
     rcases (hw.blk y (List.mem_append_left _ hy)).1 with h4|h4
     · omega
     · exact hb.2 h4
   · have:=hw.nodup
     rw [List.map_append,List.nodup_append] at this
     exact this.2.2 _ hm _ hb rfl)
 have hT:KeepT e0 W W':=fun b cs fr hb=>h3.ext.block b (Array.getElem?_eq_some_iff.1 hb).1 (fun hm=>by
   obtain ⟨y,hy,rfl⟩:=List.mem_map.1 hm
   exact (hnt x bs i).cells ((R.nob x bs).app (R.nop i)) hy (hw.blk y (List.mem_append_left _ hy)).2 hb)
 have h3':Has W ⟨(bx x bs++hp i).map Prod.fst,[]⟩ H' W':=⟨h3.ext,h3.blk,h3.nodup,List.nodup_nil,fun k hk=>(List.not_mem_nil hk).elim⟩
 cases e with
 | normal=>
   obtain ⟨j,hj,hs⟩:=h1
   exact ⟨hk0,⟨hB,hT⟩,j,hj,hw.comp2 (h3'.sub hs),Nat.le_trans hn h3.ext.size⟩
 | ret=>
   obtain ⟨j,hj,hs⟩:=h1
   exact ⟨hk0,j,hj,hw.comp2 (h3'.sub hs)⟩
 | exit id=>
   obtain ⟨j,hj,hs⟩:=h1
   exact ⟨hk0,j,hj,hw.comp2 (h3'.sub hs)⟩
 | goto _=>exact h1.elim
 | panic _=>exact h1.elim
 | outgrown=>exact h1.elim
theorem t_rangeT (e0:TypeId) {N m gf:Nat} {lb:List Value} {encs:α→List Value} {S Sp:List α→Prop} {hk:Hp} (hp:ι→Hp) (Pi:List α→ι→Prop) (bx:α→β→Hp) (fx:α→β→Fr) (hl:κ→Hp) (Pl:Code→List α→κ→Prop) (i0:ι)
   (hev:ev F g=some (.func (.func gf) #[] ⟨lb⟩)) (eg:∀ (args:Array Value) (w:World),(callFunc gf args).run c.P w=.ok (.enter gf args) w)
   (hseq:∀ D w,Has c.w0 ⟨c.M,D⟩ H w→SeqStopsK Fence.wide (m+1) c.P gf ⟨lb⟩ (fun x=>⟨encs x⟩) (fun A B=>KeepB (MiOf c hk) A B∧KeepT e0 A B) S Sp N w)
   (h0:Pi [] i0) (hH:HpSub H (hp i0++hk)) (R:RangeOk c F (H.map Prod.fst) hk ps assign body m encs N hp Pi bx fx hl Pl)
   (hnt:∀ x bs i,NoT e0 (bx x bs++hp i)) (hdone:∀ xs i,S xs→Pi xs i→Q .normal F (hp i++hk)) (hstop:∀ k pre j,Sp pre→Pl k pre j→T c (WS.own c.P) k Q F (hl j++hk)):T c (WS.own c.P) (.rangeFunc g ps assign body) Q F H:=by
 intro D a w ha hw
 refine (wpIn_wide (n:=m+2)).1 ?_
 have hD:∀ k∈D,k<w.heap.size:=fun k hk=>mark_lt (hw.marks.2 k hk).2
 have stab:∀ (X:Hp) (A B:World) (row:Option Nat),NoM X→Has c.w0 ⟨c.M,D⟩ X A→A.grownBy B row→(∀ r,row=some r→w.heap.size≤r∧∃ o:Obj,A.heap[r]?=some o∧o.isCells=false)→Has c.w0 ⟨c.M,D⟩ X B:=fun X A B row nm h hg hr=>
   Has.grown nm h hg fun r e=>⟨Nat.le_trans hw.ext.size (hr r e).1,fun hm=>by have:=hD r hm;have:=(hr r e).1;omega,(hr r e).2⟩
 refine wpIn_rangeFunc_ownH (F:=Fence.wide) (encs:=fun x=>⟨encs x⟩) (Kp:=fun A B=>KeepB (MiOf c hk) A B∧KeepT e0 A B) (S:=S) (Sp:=Sp) (N:=N) (w0:=w) rfl (by omega) (gf:=gf) (lb:=⟨lb⟩) (ha.ev hev) trivial eg (hseq D w hw) (fun h k=>⟨fun b hb=>(k.1 b hb).trans (h.1 b hb),h.2.trans k.2⟩)
   (fun W l o o' hl ho hc hwk=>⟨fun b hb=>by have:=mi_lt hw hH b hb;exact World.putObj_heap_other (by omega),KeepT.put ho hc⟩) (Below.refl _ _) (fun x=>by simpa using R.size x)
   (fun xs W'=>∃ j,Pi xs j∧Has c.w0 ⟨c.M,D⟩ (hp j++hk) W'∧w.heap.size≤W'.heap.size) (fun k xs W'=>∃ j,Pl k xs j∧Has c.w0 ⟨c.M,D⟩ (hl j++hk) W')
   (fun s A B row ⟨j,h1,h2,h3⟩ hg hr=>⟨j,h1,stab _ A B row ((R.nop j).app R.nok) h2 hg hr,Nat.le_trans h3 hg.size⟩) (fun k s A B row ⟨j,h1,h2⟩ hg hr=>⟨j,h1,stab _ A B row ((R.nol j).app R.nok) h2 hg hr⟩) ⟨i0,h0,hw.sub hH,Nat.le_refl _⟩
   (fun x a' W=>∃ bs,Frm [] c.N (fx x bs) a'∧Blks w.heap.size (bx x bs) W) (fun x a' _ A B row ⟨bs,h1,h2⟩ hg hr=>⟨bs,h1,Blks.grown (R.nob x bs) h2 hg fun r e=>(hr r e).2⟩) ?_ ?_ ?_ ?_
 · intro l pre x W K ⟨j,h1,h2,h3⟩ hK
   refine range_assign R ha l x W w.heap.size h3 K fun a' W' bs he hf hb=>hK a' W' ?_ ?_ ⟨j,h1,h2.grow he,Nat.le_trans h3 he.size⟩ ⟨bs,hf,hb⟩
   · exact (he.toM []).keeps (fun b hb=>(List.not_mem_nil hb).elim)
   · exact ⟨fun b hb=>he.block b (Nat.lt_of_lt_of_le (mi_lt hw hH b hb) h3),fun b cs fr hb=>he.block b (Array.getElem?_eq_some_iff.1 hb).1⟩
 · intro l pre x a' W hl' hr ⟨j,h1,h2,h3⟩ ⟨bs,h4,h5⟩ hlen
   have hj:=h2.join h5 hw.ext.size (R.disj x bs j _ W D h5 h2 (fun b hb=>by obtain ⟨y,hy,rfl⟩:=List.mem_map.1 hb;exact (hw.blk y hy).2.lt))
   rw [← List.append_assoc] at hj
   exact range_bodyT e0 R w.heap.size l pre x j bs a' W hnt h1 hj hlen hr (fun b hb=>mi_lt hw hH b hb) h4 h3
 · intro D' xs W hD' hS ⟨j,h1,h2,h3⟩ hm
   refine ⟨D'::D,F,hp j++hk,hdone xs j hS h1,⟨ha.size,by simp [ha.defers,dmark],ha.at_⟩,h2.ext,h2.blk,h2.nodup,List.nodup_cons.2 ⟨fun hmem=>by have:=hD _ hmem;omega,h2.marks.1⟩,fun k hk=>?_⟩
   rcases List.mem_cons.1 hk with rfl|hk
   · exact ⟨Nat.le_trans hw.ext.size hD',hm⟩
   · exact h2.marks.2 k hk
 · intro D' k pre W hD' hS ⟨j,h1,h2⟩ hm
   refine wpIn_wide.2 (hstop k pre j hS h1 (D'::D) _ W ⟨ha.size,by simp [ha.defers,dmark],ha.at_⟩ ⟨h2.ext,h2.blk,h2.nodup,List.nodup_cons.2 ⟨fun hmem=>by have:=hD _ hmem;omega,h2.marks.1⟩,fun k hk=>?_⟩)
   rcases List.mem_cons.1 hk with rfl|hk
   · exact ⟨Nat.le_trans hw.ext.size hD',hm⟩
   · exact h2.marks.2 k hk
end
end Go.Proofs.YtcjkndjjbjoehaaGreat
namespace Go.Proofs.YtcjkndjjbjoehaaGreat
open Go.RowKit Go.Shelf
attribute [local irreducible] wpG SAny
attribute [local go_sem] Oper.semAt_some
def LeadsTo (L:List Lg) (s:Int) (p:Nat×Bool×Int):Prop:=∃ z,L[p.1]?=some z∧((p.2.1=false∧z.a=s∧p.2.2=z.b)∨(p.2.1=true∧z.a≠s∧z.b=s∧p.2.2=z.a))
abbrev FN (L:List Lg) (s:Int):={ p:Nat×Bool×Int // LeadsTo L s p }
def fnS (L:List Lg) (s:Int) (i:Nat):Option (FN L s):=
 match h:L[i]? with
 | some z=>if ha:z.a=s then some ⟨(i,false,z.b),z,h,.inl ⟨rfl,ha,rfl⟩⟩ else if hb:z.b=s then some ⟨(i,true,z.a),z,h,.inr ⟨rfl,ha,hb,rfl⟩⟩ else none
 | none=>none
def fns (L:List Lg) (s:Int) (k:Nat):List (FN L s):=(List.range k).filterMap (fnS L s)
theorem fnS_a {L:List Lg} {s:Int} {i:Nat} {z:Lg} (h:L[i]?=some z) (ha:z.a=s):fnS L s i=some ⟨(i,false,z.b),z,h,.inl ⟨rfl,ha,rfl⟩⟩:=by
 unfold fnS
 split
 · rename_i y hy
   obtain rfl:y=z:=by rw [hy] at h;exact Option.some.inj h
   rw [dif_pos ha]
 · rename_i hy
   rw [hy] at h;cases h
theorem fnS_b {L:List Lg} {s:Int} {i:Nat} {z:Lg} (h:L[i]?=some z) (ha:z.a≠s) (hb:z.b=s):fnS L s i=some ⟨(i,true,z.a),z,h,.inr ⟨rfl,ha,hb,rfl⟩⟩:=by
 unfold fnS
 split
 · rename_i y hy
   obtain rfl:y=z:=by rw [hy] at h;exact Option.some.inj h
   rw [dif_neg ha,dif_pos hb]
 · rename_i hy
   rw [hy] at h;cases h
theorem fnS_no {L:List Lg} {s:Int} {i:Nat} {z:Lg} (h:L[i]?=some z) (ha:z.a≠s) (hb:z.b≠s):fnS L s i=none:=by
 unfold fnS
 split
 · rename_i y hy
   obtain rfl:y=z:=by rw [hy] at h;exact Option.some.inj h
   rw [dif_neg ha,dif_neg hb]
 · rfl
theorem fns_some {L:List Lg} {s:Int} {i:Nat} {x:FN L s} (h:fnS L s i=some x):fns L s (i+1)=fns L s i++[x]:=by
 unfold fns
 rw [List.range_succ,List.filterMap_append]
 simp [h]
theorem fns_none {L:List Lg} {s:Int} {i:Nat} (h:fnS L s i=none):fns L s (i+1)=fns L s i:=by
 unfold fns
 rw [List.range_succ,List.filterMap_append]
 simp [h]
theorem fns_len (L:List Lg) (s:Int) (k:Nat):(fns L s k).length≤k:=by
 unfold fns
 exact Nat.le_trans (List.length_filterMap_le _ _) (by simp)
theorem fns_pre (L:List Lg) (s:Int) (k n:Nat) (h:k≤n):fns L s k <+: fns L s n:=by
 obtain ⟨d,rfl⟩:=Nat.exists_eq_add_of_le h
 unfold fns
 rw [List.range_add,List.filterMap_append]
 exact List.prefix_append _ _
def KeepM (M:Nat→Prop) (W W':World):Prop:=∀ b,M b→W'.heap[b]?=W.heap[b]?
theorem KeepM.trans {M:Nat→Prop} {A B C:World} (h:KeepM M A B) (k:KeepM M B C):KeepM M A C:=fun b hb=>(k b hb).trans (h b hb)
theorem KeepM.cell {M:Nat→Prop} {A B:World} (h:KeepM M A B) {p:Addr} (hp:M p.block):B.cell? p=A.cell? p:=by
 unfold World.cell?;rw [h _ hp]
theorem RdS.keep {M:Nat→Prop} {w w':World} {k:Nat} {A:Option Addr} {n:Nat} {xs:List (List Value)} (h:RdS w k A n xs) (he:KeepM M w w') (hM:0<n→∀ b o,A=some ⟨b,o,none⟩→M b):RdS w' k A n xs:=
 ⟨h.len,fun hn=>by
   obtain ⟨b,o,rfl,hb,hc⟩:=h.at_ hn
   have hh:=he b (hM hn b o rfl)
   refine ⟨b,o,rfl,?_,fun i x hx=>⟨(hc i x hx).1,fun j u hu=>(he.cell (hM hn b o rfl)).trans ((hc i x hx).2 j u hu)⟩⟩
   rw [Array.getElem?_eq_getElem hb] at hh
   exact (Array.getElem?_eq_some_iff.1 hh).1⟩
def Bx (W:World) (b:Nat) (v:Value):Prop:=W.cell? ⟨b,0,none⟩=some v
theorem undef_no {b:Bool} (h:some undef=some (Value.bool b)):False:=by
 have:=Option.some.inj h
 unfold undef at this
 cases this
set_option maxRecDepth 100000 in
set_option maxHeartbeats 4000000 in
theorem from1_in (F:Fence) (m:Nat) (h131:F.fn 131) (hro:F.round=none) (hm:1≤m) (y B0 B1 bd:Nat) (A:Option Addr) (n c:Nat) (L:List Lg) (s:Int) (hn0:n≤1000000) (hab:∀ z∈L,z.a≠z.b)
   (M:Nat→Prop) (hM0:M B0) (hM1:M B1) (hMd:M bd) (hMA:0<n→∀ b o,A=some ⟨b,o,none⟩→M b)
   (J Jx:List (FN L s)→World→Prop)
   (hJa:∀ pre W o,J pre W→J pre (W.alloc o))
   (hJR:∀ pre W,J pre W→RdS W 5 A n (L.map lgCells)∧Bx W B0 (.pointer (some ⟨bd,0,none⟩))∧Bx W B1 (.int .i64 s)∧W.cell? ⟨bd,1,none⟩=some (.slice A n c))
   (hY:∀ pre x W,J pre W→pre.length<L.length→YieldAt F (m-1) Tryz.prog y #[.agg #[.int .i64 (x.1.1:Int),.bool x.1.2.1],.int .i64 x.1.2.2] W fun e W'=>
     (e=.returned (.bool true)∧J (pre++[x]) W'∧KeepM M W W'∧KeepT 78 W W')∨(e=.returned (.bool false)∧Jx (pre++[x]) W'))
   (W:World) (h0:J [] W) :
   CallsIn F m Tryz.prog 131 #[.func (.yield y) #[] #[],.pointer (some ⟨B0,0,none⟩),.pointer (some ⟨B1,0,none⟩)] W fun e W'=>(∃ v,e=.returned v) ∧
     ((∃ ys,ys=fns L s L.length∧J ys W')∨(∃ pre,pre <+: fns L s L.length∧Jx pre W')):=by
 have HJR:=Lib.hid hJR
 have HJa:=Lib.hid hJa
 have HY:=Lib.hid hY
 have HAB:=Lib.hid hab
 clear hJR hJa hY hab
 have r0:=HJR.out _ _ h0
 obtain ⟨hr,b0,b1,bD⟩:=r0
 have hl:=hr.len
 simp at hl
 have HR:=Lib.hid hr
 clear hr
 unfold Bx at b0 b1
 refine callsIn_of_wp Tryz.func131 rfl h131 ?_ hro
 simp only [Tryz.ntmps131,List.size_toArray,List.length_cons,List.length_nil,Nat.reduceAdd,Nat.reduceSub,Array.replicate_succ,Array.replicate_zero,List.push_toArray,List.append_toArray,List.nil_append,List.cons_append]
 gi_wp2
 gi_loopw [12] (fun i wr=>∃ k:Nat,k≤n∧i=.int .i64 k∧J (fns L s k) wr)
   (fun i wr=>n-(intOf i).toNat)
 case atStart=>
   exact ⟨0,by omega,rfl,h0⟩
 case round=>
   obtain ⟨k,hk,rfl,hJ⟩:=hrel
   clear b0 b1 bD
   by_cases hlt:k<n
   · obtain ⟨hr,b0,b1,bD⟩:=HJR.out _ _ hJ
     unfold Bx at b0 b1
     obtain ⟨b,o,x,rfl,hb,hkx,c0,c1,c2,c3,c4⟩:=lg_read hr hlt
     have HJ:=Lib.hid hJ
     have HK:=Lib.hid hkx
     have hne:=HAB.out x (List.mem_of_getElem? hkx)
     have hb1:=cell_lt b1
     simp only at hb1
     clear hr hJ hkx b0 bD
     have hlen:=fns_len L s k
     obtain ⟨xa,xb,xx,xy,xh⟩:=x
     simp only at hne c0 c1 c2 c3 c4
     have HJ2:=HJa.out _ _ (.cells #[.int .i64 xa,.int .i64 xb,.int .i64 xx,.int .i64 xy,.int .i64 xh] 78) HJ.out
     by_cases h1:xa=s
     · subst h1
       have HF:=fns_some (fnS_a HK.out rfl)
       obtain ⟨fn,tmps,assign,body,hy,hR⟩:=HY.out (fns L xa k) ⟨(k,false,xb),_,HK.out,.inl ⟨rfl,rfl,rfl⟩⟩ _ HJ2 (by omega)
       dsimp only at hy
       clear HJ2
       gi_wp2
       refine hR.mono ?_
       rintro e W3 (⟨rfl,hJ3,hk3,hT3⟩|⟨rfl,hJx3⟩)
       · have hblk:=hT3 _ _ _ (World.alloc_heap_new wr (.cells #[.int .i64 xa,.int .i64 xb,.int .i64 xx,.int .i64 xy,.int .i64 xh] 78))
         rw [World.alloc_heap_new] at hblk
         have d1:W3.cell? ⟨wr.heap.size,1,none⟩=some (.int .i64 xb):=by simp only [World.cell?,hblk];rfl
         have e1:W3.cell? ⟨B1,0,none⟩=some (.int .i64 xa):=by
           rw [hk3.cell hM1]
           exact ((Ext.refl wr).alloc _).cell b1
         have hl3:wr.heap.size<W3.heap.size:=(Array.getElem?_eq_some_iff.1 hblk).1
         clear hblk
         have HJ3:=Lib.hid hJ3
         have hxb:(xb == xa)=false:=by simpa using (Ne.symm hne)
         clear hJ3 hk3 hT3 b1 c0 c1 c2 c3 c4
         gi_wp2
         all_goals (try exact (undef_no (by assumption)).elim)
         refine ⟨fun _ h=>(by cases h),?_⟩
         gi_wp2
         go_roundw
         case rel=>exact ⟨k+1,by omega,by go_num,by rw [HF];exact HJ3.out⟩
         case measure=>simp [intOf];omega
       · clear b1 c0 c1 c2 c3 c4
         gi_wp2
         all_goals (try exact (undef_no (by assumption)).elim)
         refine ⟨fun _ h=>(by cases h),?_⟩
         gi_wp2
         refine bodyPost_ret (results_none rfl _ _ _) rfl ?_
         exact ⟨⟨_,rfl⟩,.inr ⟨_,by rw [← HF];exact fns_pre _ _ _ _ (by omega),hJx3⟩⟩
     · by_cases h2:xb=s
       · subst h2
         have hxa:(xa == xb)=false:=by simpa using h1
         have HF:=fns_some (fnS_b HK.out h1 rfl)
         obtain ⟨fn,tmps,assign,body,hy,hR⟩:=HY.out (fns L xb k) ⟨(k,true,xa),_,HK.out,.inr ⟨rfl,h1,rfl,rfl⟩⟩ _ HJ2 (by omega)
         dsimp only at hy
         clear HJ2
         gi_wp2
         all_goals (try exact (undef_no (by assumption)).elim)
         refine ⟨fun _ h=>(by cases h),?_⟩
         gi_wp2
         refine hR.mono ?_
         rintro e W3 (⟨rfl,hJ3,hk3,hT3⟩|⟨rfl,hJx3⟩)
         · have HJ3:=Lib.hid hJ3
           clear hJ3 hk3 hT3 b1 c0 c1 c2 c3 c4
           gi_wp2
           go_roundw
           case rel=>exact ⟨k+1,by omega,by go_num,by rw [HF];exact HJ3.out⟩
           case measure=>simp [intOf];omega
         · clear b1 c0 c1 c2 c3 c4
           gi_wp2
           refine bodyPost_ret (results_none rfl _ _ _) rfl ?_
           exact ⟨⟨_,rfl⟩,.inr ⟨_,by rw [← HF];exact fns_pre _ _ _ _ (by omega),hJx3⟩⟩
       · have hxa:(xa == s)=false:=by simpa using h1
         have hxb:(xb == s)=false:=by simpa using h2
         have HF:=fns_none (fnS_no HK.out h1 h2)
         gi_wp2
         all_goals (try exact (undef_no (by assumption)).elim)
         refine ⟨fun _ h=>(by cases h),?_⟩
         gi_wp2
         all_goals (try exact (undef_no (by assumption)).elim)
         go_roundw
         case rel=>exact ⟨k+1,by omega,by go_num,by rw [HF];exact HJ2⟩
         case measure=>simp [intOf];omega
   · obtain rfl:k=n:=by omega
     gi_wp2
     go_end0
     exact ⟨⟨_,rfl⟩,.inl ⟨_,by rw [hl],hJ⟩⟩
def FromAt (W:World) (B0 B1 bd:Nat) (A:Option Addr) (n c:Nat) (L:List Lg) (s:Int):Prop:=
 RdS W 5 A n (L.map lgCells)∧Bx W B0 (.pointer (some ⟨bd,0,none⟩))∧Bx W B1 (.int .i64 s)∧W.cell? ⟨bd,1,none⟩=some (.slice A n c)
theorem FromAt.ext {W W':World} {B0 B1 bd:Nat} {A:Option Addr} {n c:Nat} {L:List Lg} {s:Int} (h:FromAt W B0 B1 bd A n c L s) (he:Ext W W'):FromAt W' B0 B1 bd A n c L s:=
 ⟨h.1.ext he,he.cell h.2.1,he.cell h.2.2.1,he.cell h.2.2.2⟩
theorem from_stops (F:Fence) (m:Nat) (h131:F.fn 131) (hro:F.round=none) (hm:1≤m) (B0 B1 bd:Nat) (A:Option Addr) (n c:Nat) (L:List Lg) (s:Int) (hn0:n≤1000000) (hab:∀ z∈L,z.a≠z.b)
   (M:Nat→Prop) (hM0:M B0) (hM1:M B1) (hMd:M bd) (hMA:0<n→∀ b o,A=some ⟨b,o,none⟩→M b) (w:World) (h:FromAt w B0 B1 bd A n c L s) :
   SeqStopsK F m Tryz.prog 131 #[.pointer (some ⟨B0,0,none⟩),.pointer (some ⟨B1,0,none⟩)] (fun x:FN L s=>#[.agg #[.int .i64 (x.1.1:Int),.bool x.1.2.1],.int .i64 x.1.2.2])
     (fun U V=>KeepM M U V∧KeepT 78 U V) (fun ys=>ys=fns L s L.length) (fun pre=>pre <+: fns L s L.length) L.length w:=fun y J Jx W hW hJ hJx hY h0=>by
 refine (from1_in F m h131 hro hm y B0 B1 bd A n c L s hn0 hab M hM0 hM1 hMd hMA (fun pre W=>J pre W∧FromAt W B0 B1 bd A n c L s) Jx ?_ (fun pre W h=>h.2) ?_ W ⟨h0,h.ext hW⟩).mono ?_
 · exact fun pre W o hj=>⟨hJ _ _ _ none hj.1 (World.grownBy_alloc W o none) (fun r e=>by cases e),hj.2.ext ((Ext.refl W).alloc o)⟩
 · intro pre x W1 hj hlen
   obtain ⟨fn,tmps,assign,body,hy,hR⟩:=hY pre x W1 hj.1 hlen
   refine ⟨fn,tmps,assign,body,hy,hR.mono ?_⟩
   rintro e W' (⟨he,hj',hk⟩|h)
   · exact .inl ⟨he,⟨hj',hj.2.1.keep hk.1 hMA,(hk.1.cell hM0).trans hj.2.2.1,(hk.1.cell hM1).trans hj.2.2.2.1,(hk.1.cell hMd).trans hj.2.2.2.2⟩,hk⟩
   · exact .inr h
 · rintro e W' ⟨hv,⟨ys,hys,hj⟩|h⟩
   · exact ⟨hv,.inl ⟨ys,hys,hj.1⟩⟩
   · exact ⟨hv,.inr h⟩
end Go.Proofs.YtcjkndjjbjoehaaGreat
namespace Go.Proofs.YtcjkndjjbjoehaaGreat
open Go.RowKit
abbrev Rb:=Nat×List Nat×Nat
def rbH (r:Rb):Nat×List Value×Tg:=(r.1,(cI r.2.1).map iv,some (3,1,r.2.2))
def poolH (P:List Rb):Hp:=P.map rbH
theorem poolH_cons (r:Rb) (P:List Rb):poolH (r::P)=rbH r::poolH P:=rfl
theorem poolH_nil:poolH []=[]:=rfl
theorem poolH_app (N P:List Rb):poolH (N++P)=poolH N++poolH P:=List.map_append ..
theorem pool_mid (a hk0:Hp) (N P:List Rb):HpSub ((a++poolH N)++(hk0++poolH P)) ((a++hk0)++poolH (N++P)):=by
 refine hp_of_per (K:=[]) ?_
 rw [List.append_nil,poolH_app,List.append_assoc,List.append_assoc]
 refine List.Perm.append_left _ ?_
 rw [← List.append_assoc,← List.append_assoc]
 exact List.Perm.append_right _ List.perm_append_comm
def InP (P:List Rb) (x:Pn):Prop:=(plL x.p=[]∧x.A=none∧x.n=0∧x.c=0)∨∃ r∈P,r.2.1=plL x.p∧x.A=some ⟨r.1,0,none⟩∧x.n=r.2.1.length∧x.c=r.2.2
theorem InP.more {P N:List Rb} {x:Pn} (h:InP P x):InP (N++P) x:=by
 rcases h with h|⟨r,hr,h⟩
 · exact .inl h
 · exact .inr ⟨r,List.mem_append_right _ hr,h⟩
theorem InP.left {P N:List Rb} {x:Pn} (h:InP N x):InP (N++P) x:=by
 rcases h with h|⟨r,hr,h⟩
 · exact .inl h
 · exact .inr ⟨r,List.mem_append_left _ hr,h⟩
theorem InP.cons {P:List Rb} {r:Rb} {x:Pn} (h:InP P x):InP (r::P) x:=h.more (N:=[r])
theorem pool_blk {w0 w:World} {M:Ms} {P:List Rb} (h:Has w0 M (poolH P) w):∀ r∈P,Blk w r.1 ((cI r.2.1).map iv) (some (3,1,r.2.2)):=fun r hr=>(h.blk (rbH r) (List.mem_map.2 ⟨r,hr,rfl⟩)).2
theorem InP.len {P:List Rb} {x:Pn} (h:InP P x):x.n=(plL x.p).length:=by
 rcases h with ⟨h1,_,h3,_⟩|⟨r,_,h1,_,h3,_⟩
 · rw [h1,h3];rfl
 · rw [h3,h1]
theorem InP.rd {P:List Rb} {x:Pn} {w:World} (h:InP P x) (hP:∀ r∈P,Blk w r.1 ((cI r.2.1).map iv) (some (3,1,r.2.2))):RdS w 1 x.A x.n ((cI (plL x.p)).map inCells):=by
 rcases h with ⟨h1,h2,h3,_⟩|⟨r,hr,h1,h2,h3,_⟩
 · rw [h1,h2,h3];exact RdS.nil _ _ _
 · rw [← h1,h2,h3]
   refine Blk.rows (g:=some (3,1,r.2.2)) ?_ (by simp [cI]) (by intro q hq;obtain ⟨z,_,rfl⟩:=List.mem_map.1 hq;rfl)
   rw [in_flat]
   exact hP r hr
theorem InP.pnR {P:List Rb} {x:Pn} {w:World} (h:InP P x) (hP:∀ r∈P,Blk w r.1 ((cI r.2.1).map iv) (some (3,1,r.2.2))) (hn:(plL x.p).length≤1000000):PnR w x:=⟨h.rd hP,by rw [h.len];exact hn⟩
theorem plans_bd {A:Arcs} {n:Nat} {to:Nat→Bool} (hA:∀ i x,x∈A i→0≤x.2.2∧x.2.2≤166666666667):∀ k,∀ a,some a∈plansF A n to k→0≤a.1∧a.1≤(k:Int)*166666666667∧a.2.length≤k
 | 0,a,h=>by
   obtain ⟨i,_,h⟩:=List.mem_map.1 h
   split at h
   · obtain rfl:=Option.some.inj h;simp
   · cases h
 | k+1,a,h=>by
   obtain ⟨i,_,h⟩:=List.mem_map.1 h
   have key:∀ p,p=(plansF A n to k).getD i none∨p∈moreP (plansF A n to k) (A i)→∀ a,p=some a→0≤a.1∧a.1≤((k+1:Nat):Int)*166666666667∧a.2.length≤k+1:=by
     rintro p hp a rfl
     have get:∀ j y,(plansF A n to k).getD j none=some y→some y∈plansF A n to k:=fun j y hy=>by
       rw [List.getD_eq_getElem?_getD] at hy
       cases hg:(plansF A n to k)[j]? with
       | none=>rw [hg] at hy;cases hy
       | some v=>rw [hg] at hy;obtain rfl:v=some y:=hy;exact List.mem_of_getElem? hg
     rcases hp with hp|hp
     · have:=plans_bd hA k a (get _ _ hp.symm)
       omega
     · obtain ⟨x,hx,y,hy,e⟩:=mem_moreP.1 hp
       obtain rfl:=Option.some.inj e
       have h1:=plans_bd hA k y (get _ _ hy)
       have h2:=hA i x hx
       simp only [List.length_cons]
       omega
   rcases (leastF_spec (moreP (plansF A n to k) (A i)) ((plansF A n to k).getD i none)).1 with e|e
   · exact key _ (.inl e) a h
   · exact key _ (.inr e) a h
def zP:Pn:=⟨some (0,[]),none,0,0⟩
def nP:Pn:=⟨none,none,0,0⟩
def iniN (to:Nat→Bool) (m k:Nat):List Pn:=(List.range m).map fun i=>if i<k∧to i=false then nP else zP
theorem iniN_zero (to:Nat→Bool) (m:Nat):iniN to m 0=List.replicate m zP:=by
 unfold iniN
 refine List.ext_getElem? fun j=>?_
 by_cases hj:j<m<;>simp [hj]
theorem iniN_get {to:Nat→Bool} {m k j:Nat} (hj:j<m):(iniN to m k)[j]?=some (if j<k∧to j=false then nP else zP):=by simp [iniN,hj]
theorem iniN_at {to:Nat→Bool} {m k:Nat} (hj:k<m):(iniN to m k)[k]?=some zP:=by rw [iniN_get hj];simp
theorem iniN_set {to:Nat→Bool} {m k:Nat}:(iniN to m k).set k (if to k=false then nP else zP)=iniN to m (k+1):=by
 refine List.ext_getElem? fun j=>?_
 rw [List.getElem?_set]
 by_cases hj:j<m
 · rw [iniN_get hj,iniN_get hj]
   by_cases h:k=j
   · subst h
     have:(iniN to m k).length=m:=by simp [iniN]
     simp [hj,this]
   · rw [if_neg h]
     congr 1
     by_cases h2:j<k
     · simp [h2,show j<k+1 by omega]
     · simp [h2,show ¬ j<k+1 by omega]
 · have e1:(iniN to m k)[j]?=none:=by rw [List.getElem?_eq_none_iff];simp [iniN];omega
   have e2:(iniN to m (k+1))[j]?=none:=by rw [List.getElem?_eq_none_iff];simp [iniN];omega
   have e3:(iniN to m k).length=m:=by simp [iniN]
   rw [e1,e2,e3]
   split
   · rw [if_neg (by omega)]
   · rfl
theorem iniN_p (A:Arcs) (to:Nat→Bool) (m:Nat):(iniN to m m).map (·.p)=plansF A m to 0:=by
 unfold iniN plansF
 rw [List.map_map]
 refine List.map_congr_left fun i hi=>?_
 have:=List.mem_range.1 hi
 show (if i<m∧to i=false then nP else zP).p=_
 cases h:to i<;>simp [h,this,nP,zP]
theorem iniN_in {P:List Rb} {to:Nat→Bool} {m k:Nat}:∀ x∈iniN to m k,InP P x:=fun x hx=>by
 obtain ⟨i,_,rfl⟩:=List.mem_map.1 hx
 split<;>exact .inl ⟨rfl,rfl,rfl,rfl⟩
theorem up_set {ys l:List Pn} (u:Pn) (h:ys.length<l.length):(ys++l.drop ys.length).set ys.length u=(ys++[u])++l.drop (ys++[u]).length:=by
 rw [List.set_append_right _ _ (Nat.le_refl _),Nat.sub_self,List.drop_eq_getElem_cons h,List.set_cons_zero,List.append_assoc,List.length_append]
 rfl
theorem up_get {ys l:List Pn} {z:Pn} (h:l[ys.length]?=some z):(ys++l.drop ys.length)[ys.length]?=some z:=by
 rw [List.getElem?_append_right (Nat.le_refl _),Nat.sub_self,List.getElem?_drop];exact h
def arcFN (cst:Lg→Bool→Int) {L:List Lg} {s:Int} (x:FN L s):Option (Nat×Nat×Int):=(L[x.1.1]?).bind fun z=>if 0≤cst z x.1.2.1 then some (x.1.1,x.1.2.2.toNat,cst z x.1.2.1) else none
theorem fnS_arc (cst:Lg→Bool→Int) (L:List Lg) (s i:Nat):(fnS L (s:Int) i).bind (arcFN cst)=arcT cst L s i:=by
 unfold arcT
 cases h:L[i]? with
 | none=>unfold fnS;split<;>simp_all
 | some z=>
   show _=arcOf cst s z i
   unfold arcOf
   by_cases ha:z.a=(s:Int)
   · rw [fnS_a h ha,if_pos ha]
     simp [arcFN,h]
   · rw [if_neg ha]
     by_cases hb:z.b=(s:Int)
     · rw [fnS_b h ha hb,if_pos hb]
       simp [arcFN,h]
     · rw [fnS_no h ha hb,if_neg hb];rfl
theorem fns_arcs (cst:Lg→Bool→Int) (L:List Lg) (s:Nat):(fns L (s:Int) L.length).filterMap (arcFN cst)=arcs cst L s:=by
 unfold fns arcs
 rw [List.filterMap_filterMap]
 exact congrArg (fun f=>List.filterMap f (List.range L.length)) (funext fun i=>fnS_arc cst L s i)
def mvP (cst:Lg→Bool→Int) {L:List Lg} {s:Int} (P:List Pl) (pre:List (FN L s)):List Pl:=moreP P (pre.filterMap (arcFN cst))
theorem mvP_snoc (cst:Lg→Bool→Int) {L:List Lg} {s:Int} (P:List Pl) (pre:List (FN L s)) (x:FN L s) {z:Lg} (hz:L[x.1.1]?=some z) :
   mvP cst P (pre++[x])=mvP cst P pre++(if 0≤cst z x.1.2.1 then (match P.getD x.1.2.2.toNat none with|some y=>[some (cst z x.1.2.1+y.1,x.1.1::y.2)]|none=>[]) else []):=by
 unfold mvP moreP
 rw [List.filterMap_append,List.filterMap_append]
 congr 1
 have e:arcFN cst x=if 0≤cst z x.1.2.1 then some (x.1.1,x.1.2.2.toNat,cst z x.1.2.1) else none:=by unfold arcFN;rw [hz];rfl
 rw [List.filterMap_cons,e]
 by_cases h:0≤cst z x.1.2.1
 · rw [if_pos h,if_pos h]
   simp only [List.filterMap_cons,List.filterMap_nil]
   cases P.getD x.1.2.2.toNat none<;>rfl
 · rw [if_neg h,if_neg h];rfl
theorem flat_at {α:Type} {f:α→List Value} {s:Nat} (hf:∀ x,(f x).length=s):∀ {l:List α} {i:Nat} {x:α},l[i]?=some x→∀ {j:Nat} {v:Value},(f x)[j]?=some v→((l.map f).flatten)[i*s+j]?=some v
 | [],i,x,h,_,_,_=>by simp at h
 | y::l,0,x,h,j,v,hv=>by
   obtain rfl:y=x:=by simpa using h
   have hj:=(List.getElem?_eq_some_iff.1 hv).1
   rw [List.map_cons,List.flatten_cons,Nat.zero_mul,Nat.zero_add,List.getElem?_append_left hj]
   exact hv
 | y::l,i+1,x,h,j,v,hv=>by
   have h':l[i]?=some x:=by simpa using h
   have:=flat_at hf h' hv
   rw [List.map_cons,List.flatten_cons,List.getElem?_append_right (by rw [hf];rw [Nat.succ_mul];omega),hf]
   rw [show (i+1)*s+j-s=i*s+j by rw [Nat.succ_mul];omega]
   exact this
theorem flat_set {α:Type} {f:α→List Value} {s:Nat} (hf:∀ x,(f x).length=s):∀ {l:List α} {i:Nat} {x y:α},l[i]?=some x→∀ {k:Nat} {v:Value},k<s→f y=(f x).set k v→((l.map f).flatten).set (i*s+k) v=((l.set i y).map f).flatten
 | [],i,x,y,h,k,v,hk,hy=>by simp at h
 | a::l,0,x,y,h,k,v,hk,hy=>by
   obtain rfl:a=x:=by simpa using h
   simp only [List.map_cons,List.flatten_cons,List.set_cons_zero,Nat.zero_mul,Nat.zero_add]
   rw [List.set_append_left _ _ (by rw [hf];exact hk),hy]
 | a::l,i+1,x,y,h,k,v,hk,hy=>by
   have h':l[i]?=some x:=by simpa using h
   simp only [List.map_cons,List.flatten_cons,List.set_cons_succ]
   rw [List.set_append_right _ _ (by rw [hf,Nat.add_mul];omega),hf,show (i+1)*s+k-s=i*s+k by rw [Nat.add_mul];omega,flat_set hf h' hk hy]
theorem pn_at {l:List Pn} {i:Nat} {x:Pn} (h:l[i]?=some x):((l.map pnCells).flatten)[0+i*3]?=some (.int .i64 (plF x.p))∧((l.map pnCells).flatten)[0+i*3+1]?=some (.slice x.A x.n x.c)∧((l.map pnCells).flatten)[0+i*3+1+1]?=some (.bool x.p.isNone):=by
 rw [Nat.zero_add]
 exact ⟨flat_at (f:=pnCells) (s:=3) (fun _=>rfl) h (j:=0) rfl,flat_at (f:=pnCells) (s:=3) (fun _=>rfl) h (j:=1) rfl,flat_at (f:=pnCells) (s:=3) (fun _=>rfl) h (j:=2) rfl⟩
theorem rd_pn0 {c:Cx} {H H':Hp} {g i:Nat} {l:List Pn} {x:Pn} {tg:Tg} (h:l[i]?=some x) (p:Pick H g ((l.map pnCells).flatten) tg H'):Rd c H ⟨g,0+i*3,none⟩ (.int .i64 (plF x.p)):=Rd.own p (pn_at h).1
theorem rd_pn1 {c:Cx} {H H':Hp} {g i:Nat} {l:List Pn} {x:Pn} {tg:Tg} (h:l[i]?=some x) (p:Pick H g ((l.map pnCells).flatten) tg H'):Rd c H ⟨g,0+i*3+1,none⟩ (.slice x.A x.n x.c):=Rd.own p (pn_at h).2.1
theorem rd_pn2 {c:Cx} {H H':Hp} {g i:Nat} {l:List Pn} {x:Pn} {tg:Tg} (h:l[i]?=some x) (p:Pick H g ((l.map pnCells).flatten) tg H'):Rd c H ⟨g,0+i*3+1+1,none⟩ (.bool x.p.isNone):=Rd.own p (pn_at h).2.2
theorem pn_set {l:List Pn} {i:Nat} {x u:Pn} (h:l[i]?=some x):setL ((l.map pnCells).flatten) (0+i*3) (pnCells u)=((l.set i u).map pnCells).flatten:=by
 have hi:=(List.getElem?_eq_some_iff.1 h).1
 have e:∀ (l:List Pn) (i:Nat),i<l.length→setL ((l.map pnCells).flatten) (i*3) (pnCells u)=((l.set i u).map pnCells).flatten:=by
   intro l
   induction l with
   | nil=>intro i h;simp at h
   | cons a l ih=>
     intro i h
     cases i with
     | zero=>simp [setL,pnCells]
     | succ i=>
       have:=ih i (by simpa using h)
       rw [show (i+1)*3=i*3+3 by omega]
       simp only [setL,pnCells,List.map_cons,List.flatten_cons,List.cons_append,List.nil_append,List.set_cons_succ] at this ⊢
       rw [← this]
 rw [Nat.zero_add]
 exact e l i hi
theorem pn_setF {l:List Pn} {i:Nat} {x u:Pn} (h:l[i]?=some x) {v:Value} (hu:pnCells u=(pnCells x).set 2 v):((l.map pnCells).flatten).set (0+i*3+2) v=((l.set i u).map pnCells).flatten:=by
 rw [Nat.zero_add]
 exact flat_set (f:=pnCells) (s:=3) (fun _=>rfl) h (by omega) hu
section
variable {c:Cx} {F:Fr} {H H':Hp} {K:Value→Hp→Prop} {d:Option Tmp} {ty t:TypeId} {pos:String} {af:Array Edge} {gd:Option (Nat×Bool)} {x y:Operand} {a0:Bool} {z0:List Value} {k0:TyK} {g i:Nat} {tg:Tg} {l l':List Pn} {z:Pn}
theorem os_storePn (u:Pn) (hz:l[i]?=some z) (hl:l.set i u=l') (ht:tyAt c.tys t=some ⟨a0,3,z0,k0⟩) (hx:ev F x=some (.pointer (some ⟨g,0+i*3,none⟩))) (hy:ev F y=some (.agg ⟨pnCells u⟩)) (hp:Pick H g ((l.map pnCells).flatten) tg H')
   (kk:K undef ((g,(l'.map pnCells).flatten,tg)::H')):OS c ⟨d,.store t x y,ty,pos,af,gd⟩ F H K:=
 store_gen (vs:=pnCells u) ht hx hy rfl rfl (by simp [pnCells,Value.oneCell']) hp (by rw [pnF_len];have:=(List.getElem?_eq_some_iff.1 hz).1;omega) (by rw [pn_set hz,hl];exact kk)
theorem os_storePf (u:Pn) {v:Value} (hz:l[i]?=some z) (hl:l.set i u=l') (ht:tyAt c.tys t=some ⟨a0,1,z0,k0⟩) (hx:ev F x=some (.pointer (some ⟨g,0+i*3+2,none⟩))) (hy:ev F y=some v) (hv:v.oneCell'=true) (hu:pnCells u=(pnCells z).set 2 v) (hp:Pick H g ((l.map pnCells).flatten) tg H')
   (kk:K undef ((g,(l'.map pnCells).flatten,tg)::H')):OS c ⟨d,.store t x y,ty,pos,af,gd⟩ F H K:=
 os_store ht hx hy hv hp (by rw [pnF_len];have:=(List.getElem?_eq_some_iff.1 hz).1;omega) (C':=(l'.map pnCells).flatten) (by rw [pn_setF hz hu,hl];exact Norm.self _) kk
end
section
variable {c:Cx} {S:WS c.P} {Q:QS} {F:Fr} {H:Hp} {x:Code}
theorem t_loopP {ι:Type} (keep:List Nat) (ch:ι→Fr) (hc:ι→Hp) (Pi:ι→Prop) (μ:ι→Nat) (i0:ι) {G:Fr} (hK:KeepF F keep G) (hF:FrSub F (ch i0)) (hH:HpSub H (hc i0)) (h0:Pi i0)
   (h:∀ i,Pi i→T c S x (thenQ (fun F' H'=>∃ j,Pi j∧μ j<μ i∧FrSub F' (ch j++G)∧HpSub H' (hc j)) Q) (ch i++G) (hc i)):T c S (.loop x) Q F H:=
 t_loop (fun i=>ch i++G) hc Pi μ i0 h0 (hF.append hK.sub) hH h
end
theorem blk_cap {w:World} {b e s cap:Nat} {C:List Value} (h:Blk w b C (some (e,s,cap))):C.length≤cap*s:=by
 obtain ⟨c,t,h1,h2,rfl,h4,h5⟩|⟨h1,_⟩:=h
 rotate_left
 · rw [h1];exact Nat.zero_le _
 rw [← h4]
 rcases Nat.eq_zero_or_pos C.length with h0|h0
 · omega
 have:=h2 (C.length-1) C[C.length-1] (List.getElem?_eq_getElem (by omega))
 have:=(Array.getElem?_eq_some_iff.1 this).1
 omega
theorem ext_over {w W w1:World} {M:List Nat} (e:Ext w W) (h:ExtM M W w1) (hM:∀ b∈M,w.heap.size≤b):Ext w w1:=
 have k:=(e.toM M).trans h
 ⟨k.os,k.tape,k.output,k.size,fun b hb=>k.block b hb (fun hm=>by have:=hM b hm;omega)⟩
def TyO (e:TypeId) (H:Hp):Prop:=∀ x∈H,∃ t s cap,x.2.2=some (t,s,cap)∧t≠e∧s≠0
theorem TyO.nil {e:TypeId}:TyO e []:=fun x hx=>by cases hx
theorem TyO.cons {e t s cap b:Nat} {C:List Value} {H:Hp} (h:TyO e H) (ht:t≠e:=by decide) (hs:s≠0:=by decide):TyO e ((b,C,some (t,s,cap))::H):=fun x hx=>by
 rcases List.mem_cons.1 hx with rfl|hx
 · exact ⟨t,s,cap,rfl,ht,hs⟩
 · exact h x hx
theorem TyO.app {e:TypeId} {H G:Hp} (h:TyO e H) (k:TyO e G):TyO e (H++G):=fun x hx=>(List.mem_append.1 hx).elim (h x) (k x)
theorem TyO.pool {e:TypeId} (P:List Rb) (he:3≠e:=by decide):TyO e (poolH P):=fun x hx=>by
 obtain ⟨r,_,rfl⟩:=List.mem_map.1 hx
 exact ⟨3,1,r.2.2,rfl,he,by decide⟩
theorem TyO.noT {e:TypeId} {H:Hp} (h:TyO e H):NoT e H:=fun x hx=>by
 obtain ⟨t,s,cap,h1,h2,_⟩:=h x hx
 exact ⟨t,s,cap,h1,h2⟩
theorem TyO.noM {e:TypeId} {H:Hp} (h:TyO e H):NoM H:=fun x hx t L hm=>by
 obtain ⟨t',s,cap,h1,_,h3⟩:=h x hx
 rw [h1] at hm
 simp only [mapTg,Option.some.injEq,Prod.mk.injEq] at hm
 exact h3 hm.2.1
theorem TyO.ne {e:TypeId} {H:Hp} (h:TyO e H) {W:World} {b s cap:Nat} {C:List Value} (hb:Blk W b C (some (e,s,cap))) {z:Nat×List Value×Tg} (hz:z∈H) (hzb:Blk W z.1 z.2.1 z.2.2) (hs:s≠0:=by decide):b≠z.1:=by
 obtain ⟨t',s',cap',h1,h2,h3⟩:=h z hz
 rw [h1] at hzb
 exact Blk.ne hb hzb (Ne.symm h2) hs h3
def PlansV (R:List Pl) (m:Nat) (u:Value) (H:Hp):Prop:=∃ (l:List Pn) (P:List Rb) (g c:Nat),l.map (·.p)=R∧(∀ x∈l,InP P x)∧u=.slice (some ⟨g,0,none⟩) m c∧H=(g,(l.map pnCells).flatten,some (131,3,c))::poolH P
end Go.Proofs.YtcjkndjjbjoehaaGreat
namespace Go.Proofs.YtcjkndjjbjoehaaGreat
open Go.RowKit
attribute [local irreducible] OQ OS OX Rd T TL GX GL AL AI RV wpG SAny Calls
def FromV (bd:Nat) (s:Int) (u:Value) (H:Hp):Prop:=∃ b0 b1,u=.func (.func 131) #[] #[.pointer (some ⟨b0,0,none⟩),.pointer (some ⟨b1,0,none⟩)]∧H=[(b1,[.int .i64 s],some (3,1,1)),(b0,[.pointer (some ⟨bd,0,none⟩)],some (126,1,1))]
theorem from106_calls (bd:Nat) (s:Int) (w:World):Calls Tryz.prog 106 #[.pointer (some ⟨bd,0,none⟩),.int .i64 s] w fun e w'=>∃ u H',e=.returned u∧FromV bd s u H'∧Has w ⟨[],[]⟩ H' w':=by
 refine enterF (c:=cx w 6) Tryz.func106 rfl rfl rfl rfl ?_
 ((all_goals refine goR0e ?_);(all_goals constructor);(any_goals exact trivial);all_goals intros)
 all_goals (rename_i b0 b1;refine ⟨_,⟨b0,b1,rfl,rfl⟩,?_⟩;(try simp only [List.append_nil]);exact HpSub.refl _)
theorem best1_calls (x t:Int) (bt:Nat) (w:World) (c0:w.cell? ⟨bt,0,none⟩=some (.int .i64 t)):Calls Tryz.prog 69 #[.int .i64 x,.pointer (some ⟨bt,0,none⟩)] w fun e w'=>e=.returned (.bool (decide (x=t)))∧Ext w w':=by
 by_cases h:x=t
 · rw [decide_eq_true h]
   refine enterQ (c:=cx w 7) Tryz.func69 rfl rfl rfl rfl ?_
   ((all_goals refine goR1d ?_);(all_goals constructor);(any_goals exact trivial);all_goals intros)
   all_goals rfl
 · rw [decide_eq_false h]
   refine enterQ (c:=cx w 7) Tryz.func69 rfl rfl rfl rfl ?_
   ((all_goals refine goR1d ?_);(all_goals constructor);(any_goals exact trivial);all_goals intros)
   all_goals rfl
theorem alt1_calls (x:Nat) (bp bd:Nat) (AP:Option Addr) (m cM:Nat) (T:List Bool) (w:World) (hx:x<m) (hm:m≤1000000) (d0:w.cell? ⟨bp,0,none⟩=some (.pointer (some ⟨bd,0,none⟩))) (d1:w.cell? ⟨bd,0,none⟩=some (.slice AP m cM)) (hT:RdS w 1 AP m (T.map blCells)):Calls Tryz.prog 114 #[.int .i64 (x:Nat),.pointer (some ⟨bp,0,none⟩)] w fun e w'=>e=.returned (.bool (T.getD x false))∧Ext w w':=by
 obtain ⟨bT,oT,y,rfl,_,hy,c0⟩:=bl_read hT hx
 rw [show T.getD x false=y by rw [List.getD_eq_getElem?_getD,hy];rfl]
 refine enterQ (c:=cx w 12) Tryz.func114 rfl rfl rfl rfl ?_
 ((all_goals refine goR0e ?_);(all_goals constructor);(any_goals exact trivial);all_goals intros)
 all_goals rfl
end Go.Proofs.YtcjkndjjbjoehaaGreat
