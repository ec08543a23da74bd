/- Company: sync.WaitGroup's Done, walked (by the kit's words). -/
import Derived.Test.YtgigkennhdolpaaGreatDoorM23
namespace Go.Proofs.YtgigkennhdolpaaGreatDoor
open Go.Conc Go.ConcN Go.RowKit Go.Conc.Lib Go.ConcR.Gen Go.ConcN.Gen
open Go.ConcR (KK wgBlock WgAt stA smA rd wr mk DC0)
section
variable {P:Program}{L:WgLink}{Wg:Nat}{c:Frame}{cs:List Frame}{qt:Nat}
set_option maxRecDepth 100000 in
set_option maxHeartbeats 8000000 in
theorem done_walk(H:WgLib P L)(hcm:c.mode=.returning)(hT:QuitsD P qt 0 (G c cs)):DoneW P L.tWg Wg
  (G ((baseD L.done).at ⟨#[.pointer (some ⟨Wg,0,none⟩),undef,undef,undef],[]⟩ [.code (body_done L)]) (c::cs)):=by
 lib_facts
 simp only[body_done,body_add,doneFn,addFn,Option.getD_some]
 refine⟨100,?_⟩
 (refine cH ?_;simp only[List.size_toArray,List.length_cons,List.length_nil,Nat.reduceAdd,Nat.zero_add,List.range,List.range.loop])
 (refine aB rfl fun w hF=>?_;refine goes_oper_k rfl rfl (by k_ne) (fun K hK=>?_);go_simp;refine hK _ _ ⟨?_,?_⟩;(focus (u_none;intro e he;have hm:=mem_listed he;simp[go_sem, *] at hm));clear hK K hF w;try w_num)
 refine aB rfl fun w hF=>?_
 refine goes_call rfl rfl (by k_ne) rfl H.f_add (nm_add L) rfl ⟨by u_nil,?_⟩
 clear hF w
 walk_nrmf addFn
 repeat (first|refine cL ?_|refine az ?_|(refine cH ?_;simp only[List.size_toArray,List.length_cons,List.length_nil,Nat.reduceAdd,Nat.zero_add,List.range,List.range.loop])|refine aD rfl ?_|refine aA rfl ?_|refine cb ?_|refine cM ?_|refine bQ ?_|refine cd ?_|refine aT ?_|refine bp ?_|(refine cK rfl rfl ?_;walk_nrm)|(refine aB rfl fun w hF=>?_;refine goes_oper_k rfl rfl (by k_ne) (fun K hK=>?_);go_simp;refine hK _ _ ⟨?_,?_⟩;(focus (u_none;intro e he;have hm:=mem_listed he;simp[go_sem, *] at hm));clear hK K hF w;try w_num))
 (refine aB rfl fun w hF=>?_;refine goes_oper_k rfl rfl (by k_ne) (fun Kx hKx=>?_);have hcv:=run_convert_to_unsafe (P:=P) H.underlying_tWgP H.underlying_tUP H.room_tWg (WgLive.cell0 hF).choose_spec;have hce:=fun es=>events_convert_to_unsafe (P:=P) H.underlying_tWgP H.underlying_tUP H.room_tWg (WgLive.cell0 hF).choose_spec es;go_simp;refine hKx _ _ ⟨?_,?_⟩;(focus (u_none;intro ex hex;have hmx:=mem_listed hex;simp[go_sem,hce] at hmx));clear hKx Kx hcv hce hF w)
 refine bs ?_
 refine⟨rfl,_,fun _=>stepG_markAt .releaseMerge (by simp) rfl rfl (by k_ne) rfl H.f_relMerge (x_relMerge_n L) (x_relMerge_b L) (x_relMerge_x L) (x_relMerge_f L) (by simp[Act.eval,stA]),200,?_⟩
 walk_nrm
 repeat (first|refine cL ?_|refine az ?_|(refine cH ?_;simp only[List.size_toArray,List.length_cons,List.length_nil,Nat.reduceAdd,Nat.zero_add,List.range,List.range.loop])|refine aD rfl ?_|refine aA rfl ?_|refine cb ?_|refine cM ?_|refine bQ ?_|refine cd ?_|refine aT ?_|refine bp ?_|(refine cK rfl rfl ?_;walk_nrm)|(refine aB rfl fun w hF=>?_;refine goes_oper_k rfl rfl (by k_ne) (fun K hK=>?_);go_simp;refine hK _ _ ⟨?_,?_⟩;(focus (u_none;intro e he;have hm:=mem_listed he;simp[go_sem, *] at hm));clear hK K hF w;try w_num))
 refine bs ?_
 refine⟨rfl,_,fun _=>stepG_mark0 .disable (by simp) rfl rfl (by k_ne) rfl H.f_disable (x_disable_n L) (x_disable_b L) (x_disable_x L) (x_disable_f L),200,?_⟩
 walk_nrm
 repeat (first|refine cL ?_|refine az ?_|(refine cH ?_;simp only[List.size_toArray,List.length_cons,List.length_nil,Nat.reduceAdd,Nat.zero_add,List.range,List.range.loop])|refine aD rfl ?_|refine aA rfl ?_|refine cb ?_|refine cM ?_|refine bQ ?_|refine cd ?_|refine aT ?_|refine bp ?_|(refine aB rfl fun w hF=>?_;refine goes_call rfl rfl (by k_ne) rfl H.f_uAdd (nm_uAdd L) rfl ⟨by u_nil,?_⟩;clear hF w;walk_nrmf uAddFn)|(refine cY rfl (fun _=>stepG_defer rfl rfl (by k_ne) rfl) ?_;walk_nrm)|(refine cY rfl (fun _=>stepG_entry_pure (.bool false) rfl rfl (by k_ne) rfl H.f_inBubble (x_inBubble_n L) (x_inBubble_b L) (x_inBubble_x L) (x_inBubble_f L)) ?_;walk_nrm)|(refine cK rfl rfl ?_;walk_nrm)|(refine aB rfl fun w hF=>?_;refine goes_oper_k rfl rfl (by k_ne) (fun K hK=>?_);go_simp;refine hK _ _ ⟨?_,?_⟩;(focus (u_none;intro e he;have hm:=mem_listed he;simp[go_sem, *] at hm));clear hK K hF w;try w_num))
 refine bs ?_
 have e0:IntKind.u64.wrap (KK+18446744069414584320)=0:=by decide
 have e1:IntKind.u64.wrap (KK+1+18446744069414584320)=1:=by decide
 refine⟨rfl,?_,?_⟩
 ·refine⟨_,fun _ hw=>(stepG_add_atomic rfl rfl (by k_ne) rfl H.f_addU64 (x_addU64_n L) (x_addU64_b L) (x_addU64_x L) .u64 (x_addU64_f L) rfl rfl hw.cellSt (hw.thaw 0)).trans (by rw[e0];rfl),qt+400,?_⟩
  walk_nrm
  repeat (first|q_c stepG_region_end|q_c stepG_seq|q_c stepG_skip|q_reg|q_cond false|q_cond true|q_skip|q_c stepG_ret'|q_c stepG_inBlock|q_c stepG_inLoop|q_exit|(refine QuitsD.leave1 rfl rfl H.f_uAdd rfl ?_;walk_nrm)|(refine QuitsD.value (.bool false) rfl rfl (by k_ne) ?_ ?_ ?_;(focus (intro _;go_simp;try (first|w_num|decide);done));(focus (intro _;simp[go_sem, *];done));walk_nrm)|(refine QuitsD.value (.bool true) rfl rfl (by k_ne) ?_ ?_ ?_;(focus (intro _;go_simp;try (first|w_num|decide);done));(focus (intro _;simp[go_sem, *];done));walk_nrm)|(refine QuitsD.value (.int .u64 0) rfl rfl (by k_ne) ?_ ?_ ?_;(focus (intro _;go_simp;try (first|w_num|decide);done));(focus (intro _;simp[go_sem, *];done));walk_nrm)|(refine QuitsD.value (.int .i32 0) rfl rfl (by k_ne) ?_ ?_ ?_;(focus (intro _;go_simp;try (first|w_num|decide);done));(focus (intro _;simp[go_sem, *];done));walk_nrm)|(refine QuitsD.value (.int .u32 0) rfl rfl (by k_ne) ?_ ?_ ?_;(focus (intro _;go_simp;try (first|w_num|decide);done));(focus (intro _;simp[go_sem, *];done));walk_nrm)|(refine QuitsD.value (.int .u32 1) rfl rfl (by k_ne) ?_ ?_ ?_;(focus (intro _;go_simp;try (first|w_num|decide);done));(focus (intro _;simp[go_sem, *];done));walk_nrm)|(refine QuitsD.value (.int .i64 (-1)) rfl rfl (by k_ne) ?_ ?_ ?_;(focus (intro _;go_simp;try (first|w_num|decide);done));(focus (intro _;simp[go_sem, *];done));walk_nrm)|(refine QuitsD.value (.int .u64 1) rfl rfl (by k_ne) ?_ ?_ ?_;(focus (intro _;go_simp;try (first|w_num|decide);done));(focus (intro _;simp[go_sem, *];done));walk_nrm))
  q_enable
  q_leave0 H.f_add
  q_c stepG_region_end
  q_c stepG_end
  exact QuitsD.leaveD rfl rfl H.f_done rfl hcm (j9 (by omega) hT)
 ·refine⟨_,fun _ hw=>(stepG_add_atomic rfl rfl (by k_ne) rfl H.f_addU64 (x_addU64_n L) (x_addU64_b L) (x_addU64_x L) .u64 (x_addU64_f L) rfl rfl hw.cellSt (hw.thaw 0)).trans (by rw[e1];rfl),300,?_⟩
  walk_nrm
  repeat (first|refine cL ?_|refine az ?_|(refine cH ?_;simp only[List.size_toArray,List.length_cons,List.length_nil,Nat.reduceAdd,Nat.zero_add,List.range,List.range.loop])|refine aD rfl ?_|refine aA rfl ?_|refine cb ?_|refine cM ?_|refine bQ ?_|refine cd ?_|refine aT ?_|refine bp ?_|(refine aB rfl fun w hF=>?_;refine goes_call rfl rfl (by k_ne) rfl H.f_uLoad (nm_uLoad L) rfl ⟨by u_nil,?_⟩;clear hF w;walk_nrmf uLoadFn)|(refine aB rfl fun w hF=>?_;refine goes_leave1 rfl rfl H.f_uAdd rfl ⟨by u_nil,?_⟩;clear hF w;walk_nrm)|(refine cK rfl rfl ?_;walk_nrm)|(refine aB rfl fun w hF=>?_;refine goes_oper_k rfl rfl (by k_ne) (fun K hK=>?_);go_simp;refine hK _ _ ⟨?_,?_⟩;(focus (u_none;intro e he;have hm:=mem_listed he;simp[go_sem, *] at hm));clear hK K hF w;try w_num))
  refine bs ?_
  refine⟨rfl,_,fun _ hw=>stepG_load_atomic (v:=1) rfl rfl (by k_ne) rfl H.f_loadU64 (x_loadU64_n L) (x_loadU64_b L) (x_loadU64_x L) .u64 (x_loadU64_f L) rfl hw.cellSt,200,?_⟩
  walk_nrm
  repeat (first|refine cL ?_|refine az ?_|(refine cH ?_;simp only[List.size_toArray,List.length_cons,List.length_nil,Nat.reduceAdd,Nat.zero_add,List.range,List.range.loop])|refine aD rfl ?_|refine aA rfl ?_|refine cb ?_|refine cM ?_|refine bQ ?_|refine cd ?_|refine aT ?_|refine bp ?_|(refine aB rfl fun w hF=>?_;refine goes_call rfl rfl (by k_ne) rfl H.f_uStore (nm_uStore L) rfl ⟨by u_nil,?_⟩;clear hF w;walk_nrmf uStoreFn)|(refine aB rfl fun w hF=>?_;refine goes_leave1 rfl rfl H.f_uLoad rfl ⟨by u_nil,?_⟩;clear hF w;walk_nrm)|(refine cK rfl rfl ?_;walk_nrm)|(refine aB rfl fun w hF=>?_;refine goes_oper_k rfl rfl (by k_ne) (fun K hK=>?_);go_simp;refine hK _ _ ⟨?_,?_⟩;(focus (u_none;intro e he;have hm:=mem_listed he;simp[go_sem, *] at hm));clear hK K hF w;try w_num))
  refine bs ?_
  refine⟨rfl,_,fun _ hw=>stepG_store_atomic rfl rfl (by k_ne) rfl H.f_storeU64 (x_storeU64_n L) (x_storeU64_b L) (x_storeU64_x L) (x_storeU64_f L) rfl rfl hw.cellSt (hw.thaw 0),200,?_⟩
  walk_nrm
  refine az ?_
  refine lw_end ?_
  (refine aB rfl fun w hF=>?_;refine goes_leave0 rfl rfl H.f_uStore rfl ⟨by u_nil,?_⟩;clear hF w;walk_nrm)
  repeat (first|refine cL ?_|refine az ?_|(refine cH ?_;simp only[List.size_toArray,List.length_cons,List.length_nil,Nat.reduceAdd,Nat.zero_add,List.range,List.range.loop])|refine aD rfl ?_|refine aA rfl ?_|refine cb ?_|refine cM ?_|refine bQ ?_|refine cd ?_|refine aT ?_|refine bp ?_|(refine cK rfl rfl ?_;walk_nrm)|(refine aB rfl fun w hF=>?_;refine goes_oper_k rfl rfl (by k_ne) (fun K hK=>?_);go_simp;refine hK _ _ ⟨?_,?_⟩;(focus (u_none;intro e he;have hm:=mem_listed he;simp[go_sem, *] at hm));clear hK K hF w;try w_num))
  refine bs ?_
  refine⟨rfl,mayWake_entry rfl rfl H.f_semrelease (x_semrelease_b L),_,fun _ hw=>(stepG_semrelease rfl rfl (by k_ne) rfl H.f_semrelease (x_semrelease_n L) (x_semrelease_b L) (x_semrelease_x L) (x_semrelease_f L) (by simp[Act.eval,smA]) hw.cellSm (hw.thaw 1)).trans (by rfl),qt+200,?_⟩
  walk_nrm
  repeat (first|q_c stepG_region_end|q_c stepG_seq|q_c stepG_skip|q_reg|q_cond false|q_cond true|q_skip|q_c stepG_ret'|q_c stepG_inBlock|q_c stepG_inLoop|q_exit|(refine QuitsD.value (.bool false) rfl rfl (by k_ne) ?_ ?_ ?_;(focus (intro _;go_simp;try (first|w_num|decide);done));(focus (intro _;simp[go_sem, *];done));walk_nrm)|(refine QuitsD.value (.bool true) rfl rfl (by k_ne) ?_ ?_ ?_;(focus (intro _;go_simp;try (first|w_num|decide);done));(focus (intro _;simp[go_sem, *];done));walk_nrm)|(refine QuitsD.value (.int .u64 0) rfl rfl (by k_ne) ?_ ?_ ?_;(focus (intro _;go_simp;try (first|w_num|decide);done));(focus (intro _;simp[go_sem, *];done));walk_nrm)|(refine QuitsD.value (.int .i32 0) rfl rfl (by k_ne) ?_ ?_ ?_;(focus (intro _;go_simp;try (first|w_num|decide);done));(focus (intro _;simp[go_sem, *];done));walk_nrm)|(refine QuitsD.value (.int .u32 0) rfl rfl (by k_ne) ?_ ?_ ?_;(focus (intro _;go_simp;try (first|w_num|decide);done));(focus (intro _;simp[go_sem, *];done));walk_nrm)|(refine QuitsD.value (.int .u32 1) rfl rfl (by k_ne) ?_ ?_ ?_;(focus (intro _;go_simp;try (first|w_num|decide);done));(focus (intro _;simp[go_sem, *];done));walk_nrm)|(refine QuitsD.value (.int .i64 (-1)) rfl rfl (by k_ne) ?_ ?_ ?_;(focus (intro _;go_simp;try (first|w_num|decide);done));(focus (intro _;simp[go_sem, *];done));walk_nrm)|(refine QuitsD.value (.int .u64 1) rfl rfl (by k_ne) ?_ ?_ ?_;(focus (intro _;go_simp;try (first|w_num|decide);done));(focus (intro _;simp[go_sem, *];done));walk_nrm))
  q_c stepG_end
  q_enable
  q_leave0 H.f_add
  q_c stepG_region_end
  q_c stepG_end
  exact QuitsD.leaveD rfl rfl H.f_done rfl hcm (j9 (by omega) hT)
end
end Go.Proofs.YtgigkennhdolpaaGreatDoor
