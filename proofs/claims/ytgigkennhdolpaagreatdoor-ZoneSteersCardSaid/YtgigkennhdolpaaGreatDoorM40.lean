/- Company: sync.WaitGroup's Wait, walked (by the kit's words). -/
import Derived.Test.YtgigkennhdolpaaGreatDoorM23
namespace Go.Proofs.YtgigkennhdolpaaGreatDoor
open Go.Conc Go.ConcN Go.RowKit Go.Conc.Lib Go.ConcR.Gen Go.ConcN.Gen
open Go.ConcR (KK wgBlock WgAt stA smA rd wr mk DC0)
section
variable {P:Program}{L:WgLink}{Wg:Nat}{b₀:Frame}{a₀:Act}{ops₀:Array Oper}{i₀:Nat}{rest₀:List Nat}{k₀:List Item}{cs:List Frame}
set_option maxRecDepth 100000 in
set_option maxHeartbeats 8000000 in
theorem wait_walk(H:WgLib P L):nh P true L.tWg Wg (Back b₀ a₀ ops₀ i₀ rest₀ k₀ cs)
  (G ((base L.wait).at ⟨#[.pointer (some ⟨Wg,0,none⟩),undef,undef,undef,undef,undef,undef,undef,undef,undef,undef,undef,undef,undef,undef,undef,undef,undef,undef,undef,undef,undef,undef,undef,undef,undef,undef,undef,undef,undef,undef,undef,undef,undef,undef,undef,undef,undef,undef,undef,undef,undef,undef,undef,undef,undef,undef,undef,undef,undef,undef,undef,undef,undef,undef,undef,undef,undef,undef,undef,undef,undef,undef,undef,undef,undef,undef,undef,undef,undef,undef,undef,undef,undef,undef,undef,undef,undef,undef,undef,undef,undef,undef,undef],[]⟩ [.code (body_wait L)]) (b₀.at a₀ (.inRegion ops₀ (i₀::rest₀)::k₀)::cs)):=by
 lib_facts
 simp only[body_wait,waitFn,Option.getD_some]
 refine⟨60,?_⟩
 repeat (first|refine cL ?_|refine az ?_|(refine cH ?_;simp only[List.size_toArray,List.length_cons,List.length_nil,Nat.reduceAdd,Nat.zero_add,List.range,List.range.loop])|refine aD rfl ?_|refine aA rfl ?_|refine cb ?_|refine cM ?_|refine bQ ?_|refine cd ?_|refine aT ?_|refine bp ?_|(refine cK rfl rfl ?_;walk_nrm)|(refine aB rfl fun w hF=>?_;refine goes_oper_k rfl rfl (by k_ne) (fun K hK=>?_);go_simp;refine hK _ _ ⟨?_,?_⟩;(focus (u_none;intro e he;have hm:=mem_listed he;simp[go_sem, *] at hm));clear hK K hF w;try w_num))
 refine bs ?_
 refine⟨rfl,_,fun _=>stepG_mark0 .disable (by simp) rfl rfl (by k_ne) rfl H.f_disable (x_disable_n L) (x_disable_b L) (x_disable_x L) (x_disable_f L),200,?_⟩
 walk_nrm
 repeat (first|refine cL ?_|refine az ?_|(refine cH ?_;simp only[List.size_toArray,List.length_cons,List.length_nil,Nat.reduceAdd,Nat.zero_add,List.range,List.range.loop])|refine aD rfl ?_|refine aA rfl ?_|refine cb ?_|refine cM ?_|refine bQ ?_|refine cd ?_|refine aT ?_|refine bp ?_|(refine aB rfl fun w hF=>?_;refine goes_call rfl rfl (by k_ne) rfl H.f_uLoad (nm_uLoad L) rfl ⟨by u_nil,?_⟩;clear hF w;walk_nrmf uLoadFn)|(refine cK rfl rfl ?_;walk_nrm)|(refine aB rfl fun w hF=>?_;refine goes_oper_k rfl rfl (by k_ne) (fun K hK=>?_);go_simp;refine hK _ _ ⟨?_,?_⟩;(focus (u_none;intro e he;have hm:=mem_listed he;simp[go_sem, *] at hm));clear hK K hF w;try w_num))
 refine bs ?_
 refine⟨rfl,?_,?_⟩
 ·-- it reads 0
  refine⟨_,fun _ hw=>stepG_load_atomic (v:=0) rfl rfl (by k_ne) rfl H.f_loadU64 (x_loadU64_n L) (x_loadU64_b L) (x_loadU64_x L) .u64 (x_loadU64_f L) rfl hw.cellSt,200,?_⟩
  walk_nrm
  repeat (first|refine cL ?_|refine az ?_|(refine cH ?_;simp only[List.size_toArray,List.length_cons,List.length_nil,Nat.reduceAdd,Nat.zero_add,List.range,List.range.loop])|refine aD rfl ?_|refine aA rfl ?_|refine cb ?_|refine cM ?_|refine bQ ?_|refine cd ?_|refine aT ?_|refine bp ?_|(refine aB rfl fun w hF=>?_;refine goes_leave1 rfl rfl H.f_uLoad rfl ⟨by u_nil,?_⟩;clear hF w;walk_nrm)|(refine cK rfl rfl ?_;walk_nrm)|(refine aB rfl fun w hF=>?_;refine goes_oper_k rfl rfl (by k_ne) (fun K hK=>?_);go_simp;refine hK _ _ ⟨?_,?_⟩;(focus (u_none;intro e he;have hm:=mem_listed he;simp[go_sem, *] at hm));clear hK K hF w;try w_num))
  refine bs ?_
  refine⟨rfl,_,fun _=>stepG_mark0 .enable (by simp) rfl rfl (by k_ne) rfl H.f_enable (x_enable_n L) (x_enable_b L) (x_enable_x L) (x_enable_f L),200,?_⟩
  walk_nrm
  repeat (first|refine cL ?_|refine az ?_|(refine cH ?_;simp only[List.size_toArray,List.length_cons,List.length_nil,Nat.reduceAdd,Nat.zero_add,List.range,List.range.loop])|refine aD rfl ?_|refine aA rfl ?_|refine cb ?_|refine cM ?_|refine bQ ?_|refine cd ?_|refine aT ?_|refine bp ?_|(refine cK rfl rfl ?_;walk_nrm)|(refine aB rfl fun w hF=>?_;refine goes_oper_k rfl rfl (by k_ne) (fun K hK=>?_);go_simp;refine hK _ _ ⟨?_,?_⟩;(focus (u_none;intro e he;have hm:=mem_listed he;simp[go_sem, *] at hm));clear hK K hF w;try w_num))
  (refine aB rfl fun w hF=>?_;refine goes_oper_k rfl rfl (by k_ne) (fun Kx hKx=>?_);have hcv:=run_convert_to_unsafe (P:=P) H.underlying_tWgP H.underlying_tUP H.room_tWg (WgLive.cell0 hF).choose_spec;have hce:=fun es=>events_convert_to_unsafe (P:=P) H.underlying_tWgP H.underlying_tUP H.room_tWg (WgLive.cell0 hF).choose_spec es;go_simp;refine hKx _ _ ⟨?_,?_⟩;(focus (u_none;intro ex hex;have hmx:=mem_listed hex;simp[go_sem,hce] at hmx));clear hKx Kx hcv hce hF w)
  refine bs ?_
  refine⟨rfl,_,fun _=>stepG_markAt .acquire (by simp) rfl rfl (by k_ne) rfl H.f_acquire (x_acquire_n L) (x_acquire_b L) (x_acquire_x L) (x_acquire_f L) (by simp[Act.eval,stA]),200,?_⟩
  walk_nrm
  repeat (first|refine cL ?_|refine az ?_|(refine cH ?_;simp only[List.size_toArray,List.length_cons,List.length_nil,Nat.reduceAdd,Nat.zero_add,List.range,List.range.loop])|refine aD rfl ?_|refine aA rfl ?_|refine cb ?_|refine cM ?_|refine bQ ?_|refine cd ?_|refine aT ?_|refine bp ?_|(refine cK rfl rfl ?_;walk_nrm)|(refine aB rfl fun w hF=>?_;refine goes_oper_k rfl rfl (by k_ne) (fun K hK=>?_);go_simp;refine hK _ _ ⟨?_,?_⟩;(focus (u_none;intro e he;have hm:=mem_listed he;simp[go_sem, *] at hm));clear hK K hF w;try w_num))
  (refine aB rfl fun w hF=>?_;refine goes_leave0 rfl rfl H.f_wait rfl ⟨by u_nil,?_⟩;clear hF w;walk_nrm)
  exact bs rfl
 ·-- the worker is counted
  refine⟨_,fun _ hw=>stepG_load_atomic (v:=4294967296) rfl rfl (by k_ne) rfl H.f_loadU64 (x_loadU64_n L) (x_loadU64_b L) (x_loadU64_x L) .u64 (x_loadU64_f L) rfl hw.cellSt,200,?_⟩
  walk_nrm
  repeat (first|refine cL ?_|refine az ?_|(refine cH ?_;simp only[List.size_toArray,List.length_cons,List.length_nil,Nat.reduceAdd,Nat.zero_add,List.range,List.range.loop])|refine aD rfl ?_|refine aA rfl ?_|refine cb ?_|refine cM ?_|refine bQ ?_|refine cd ?_|refine aT ?_|refine bp ?_|(refine aB rfl fun w hF=>?_;refine goes_call rfl rfl (by k_ne) rfl H.f_uCas (nm_uCas L) rfl ⟨by u_nil,?_⟩;clear hF w;walk_nrmf uCasFn)|(refine aB rfl fun w hF=>?_;refine goes_leave1 rfl rfl H.f_uLoad rfl ⟨by u_nil,?_⟩;clear hF w;walk_nrm)|(refine cK rfl rfl ?_;walk_nrm)|(refine aB rfl fun w hF=>?_;refine goes_oper_k rfl rfl (by k_ne) (fun K hK=>?_);go_simp;refine hK _ _ ⟨?_,?_⟩;(focus (u_none;intro e he;have hm:=mem_listed he;simp[go_sem, *] at hm));clear hK K hF w;try w_num))
  refine bs ?_
  refine⟨rfl,?_,?_⟩
  ·refine⟨_,fun _ hw=>(stepG_cas_hit (v:=4294967296) (n:=4294967297) rfl rfl (by k_ne) rfl H.f_casU64 (x_casU64_n L) (x_casU64_b L) (x_casU64_x L) .u64 (x_casU64_f L) rfl rfl rfl hw.cellSt (hw.thaw 0)).trans (by rfl),200,?_⟩
   walk_nrm
   repeat (first|refine cL ?_|refine az ?_|(refine cH ?_;simp only[List.size_toArray,List.length_cons,List.length_nil,Nat.reduceAdd,Nat.zero_add,List.range,List.range.loop])|refine aD rfl ?_|refine aA rfl ?_|refine cb ?_|refine cM ?_|refine bQ ?_|refine cd ?_|refine aT ?_|refine bp ?_|(refine aB rfl fun w hF=>?_;refine goes_leave1 rfl rfl H.f_uCas rfl ⟨by u_nil,?_⟩;clear hF w;walk_nrm)|(refine cK rfl rfl ?_;walk_nrm)|(refine aB rfl fun w hF=>?_;refine goes_oper_k rfl rfl (by k_ne) (fun K hK=>?_);go_simp;refine hK _ _ ⟨?_,?_⟩;(focus (u_none;intro e he;have hm:=mem_listed he;simp[go_sem, *] at hm));clear hK K hF w;try w_num))
   (refine aB rfl fun w hF=>?_;refine goes_oper_k rfl rfl (by k_ne) (fun Kx hKx=>?_);have hcv:=run_convert_to_unsafe (P:=P) H.underlying_tPU32 H.underlying_tUP H.room_tU32 (WgLive.cell1 hF).choose_spec;have hce:=fun es=>events_convert_to_unsafe (P:=P) H.underlying_tPU32 H.underlying_tUP H.room_tU32 (WgLive.cell1 hF).choose_spec es;go_simp;refine hKx _ _ ⟨?_,?_⟩;(focus (u_none;intro ex hex;have hmx:=mem_listed hex;simp[go_sem,hce] at hmx));clear hKx Kx hcv hce hF w)
   refine bs ?_
   refine⟨rfl,_,fun _=>stepG_markAt .write (by simp) rfl rfl (by k_ne) rfl H.f_raceWrite (x_raceWrite_n L) (x_raceWrite_b L) (x_raceWrite_x L) (x_raceWrite_f L) (ad:=⟨Wg,1,none⟩) (by simp[Act.eval]),200,?_⟩
   walk_nrm
   repeat (first|refine cL ?_|refine az ?_|(refine cH ?_;simp only[List.size_toArray,List.length_cons,List.length_nil,Nat.reduceAdd,Nat.zero_add,List.range,List.range.loop])|refine aD rfl ?_|refine aA rfl ?_|refine cb ?_|refine cM ?_|refine bQ ?_|refine cd ?_|refine aT ?_|refine bp ?_|(refine cK rfl rfl ?_;walk_nrm)|(refine aB rfl fun w hF=>?_;refine goes_oper_k rfl rfl (by k_ne) (fun K hK=>?_);go_simp;refine hK _ _ ⟨?_,?_⟩;(focus (u_none;intro e he;have hm:=mem_listed he;simp[go_sem, *] at hm));clear hK K hF w;try w_num))
   refine bs ?_
   refine⟨rfl,rfl,fun _ ⟨_,hw⟩=>stepG_semacquire_wait rfl rfl rfl H.f_semacquire (x_semacquire_n L) (x_semacquire_b L) (x_semacquire_x L) (x_semacquire_f L) (by simp[Act.eval,smA]) hw.cellSm,?_⟩
   refine⟨_,fun _ hw=>(stepG_semacquire (n:=1) rfl rfl (by k_ne) rfl H.f_semacquire (x_semacquire_n L) (x_semacquire_b L) (x_semacquire_x L) (x_semacquire_f L) (by simp[Act.eval,smA]) hw.cellSm (by decide) (hw.thaw 1)).trans (by rfl),200,?_⟩
   walk_nrm
   repeat (first|refine cL ?_|refine az ?_|(refine cH ?_;simp only[List.size_toArray,List.length_cons,List.length_nil,Nat.reduceAdd,Nat.zero_add,List.range,List.range.loop])|refine aD rfl ?_|refine aA rfl ?_|refine cb ?_|refine cM ?_|refine bQ ?_|refine cd ?_|refine aT ?_|refine bp ?_|(refine aB rfl fun w hF=>?_;refine goes_call rfl rfl (by k_ne) rfl H.f_uLoad (nm_uLoad L) rfl ⟨by u_nil,?_⟩;clear hF w;walk_nrmf uLoadFn)|(refine cK rfl rfl ?_;walk_nrm)|(refine aB rfl fun w hF=>?_;refine goes_oper_k rfl rfl (by k_ne) (fun K hK=>?_);go_simp;refine hK _ _ ⟨?_,?_⟩;(focus (u_none;intro e he;have hm:=mem_listed he;simp[go_sem, *] at hm));clear hK K hF w;try w_num))
   refine bs ?_
   refine⟨rfl,?_⟩
   refine⟨_,fun _ hw=>stepG_load_atomic (v:=0) rfl rfl (by k_ne) rfl H.f_loadU64 (x_loadU64_n L) (x_loadU64_b L) (x_loadU64_x L) .u64 (x_loadU64_f L) rfl hw.cellSt,200,?_⟩
   walk_nrm
   repeat (first|refine cL ?_|refine az ?_|(refine cH ?_;simp only[List.size_toArray,List.length_cons,List.length_nil,Nat.reduceAdd,Nat.zero_add,List.range,List.range.loop])|refine aD rfl ?_|refine aA rfl ?_|refine cb ?_|refine cM ?_|refine bQ ?_|refine cd ?_|refine aT ?_|refine bp ?_|(refine aB rfl fun w hF=>?_;refine goes_leave1 rfl rfl H.f_uLoad rfl ⟨by u_nil,?_⟩;clear hF w;walk_nrm)|(refine cK rfl rfl ?_;walk_nrm)|(refine aB rfl fun w hF=>?_;refine goes_oper_k rfl rfl (by k_ne) (fun K hK=>?_);go_simp;refine hK _ _ ⟨?_,?_⟩;(focus (u_none;intro e he;have hm:=mem_listed he;simp[go_sem, *] at hm));clear hK K hF w;try w_num))
   refine bs ?_
   refine⟨rfl,_,fun _=>stepG_mark0 .enable (by simp) rfl rfl (by k_ne) rfl H.f_enable (x_enable_n L) (x_enable_b L) (x_enable_x L) (x_enable_f L),200,?_⟩
   walk_nrm
   repeat (first|refine cL ?_|refine az ?_|(refine cH ?_;simp only[List.size_toArray,List.length_cons,List.length_nil,Nat.reduceAdd,Nat.zero_add,List.range,List.range.loop])|refine aD rfl ?_|refine aA rfl ?_|refine cb ?_|refine cM ?_|refine bQ ?_|refine cd ?_|refine aT ?_|refine bp ?_|(refine cK rfl rfl ?_;walk_nrm)|(refine aB rfl fun w hF=>?_;refine goes_oper_k rfl rfl (by k_ne) (fun K hK=>?_);go_simp;refine hK _ _ ⟨?_,?_⟩;(focus (u_none;intro e he;have hm:=mem_listed he;simp[go_sem, *] at hm));clear hK K hF w;try w_num))
   (refine aB rfl fun w hF=>?_;refine goes_oper_k rfl rfl (by k_ne) (fun Kx hKx=>?_);have hcv:=run_convert_to_unsafe (P:=P) H.underlying_tWgP H.underlying_tUP H.room_tWg (WgLive.cell0 hF).choose_spec;have hce:=fun es=>events_convert_to_unsafe (P:=P) H.underlying_tWgP H.underlying_tUP H.room_tWg (WgLive.cell0 hF).choose_spec es;go_simp;refine hKx _ _ ⟨?_,?_⟩;(focus (u_none;intro ex hex;have hmx:=mem_listed hex;simp[go_sem,hce] at hmx));clear hKx Kx hcv hce hF w)
   refine bs ?_
   refine⟨rfl,_,fun _=>stepG_markAt .acquire (by simp) rfl rfl (by k_ne) rfl H.f_acquire (x_acquire_n L) (x_acquire_b L) (x_acquire_x L) (x_acquire_f L) (by simp[Act.eval,stA]),200,?_⟩
   walk_nrm
   repeat (first|refine cL ?_|refine az ?_|(refine cH ?_;simp only[List.size_toArray,List.length_cons,List.length_nil,Nat.reduceAdd,Nat.zero_add,List.range,List.range.loop])|refine aD rfl ?_|refine aA rfl ?_|refine cb ?_|refine cM ?_|refine bQ ?_|refine cd ?_|refine aT ?_|refine bp ?_|(refine cK rfl rfl ?_;walk_nrm)|(refine aB rfl fun w hF=>?_;refine goes_oper_k rfl rfl (by k_ne) (fun K hK=>?_);go_simp;refine hK _ _ ⟨?_,?_⟩;(focus (u_none;intro e he;have hm:=mem_listed he;simp[go_sem, *] at hm));clear hK K hF w;try w_num))
   (refine aB rfl fun w hF=>?_;refine goes_leave0 rfl rfl H.f_wait rfl ⟨by u_nil,?_⟩;clear hF w;walk_nrm)
   exact bs rfl
  ·refine⟨_,fun _ hw=>stepG_cas_miss (v:=0) (old:=4294967296) (n:=4294967297) rfl rfl (by k_ne) rfl H.f_casU64 (x_casU64_n L) (x_casU64_b L) (x_casU64_x L) .u64 (x_casU64_f L) rfl rfl rfl hw.cellSt (hw.thaw 0) (by decide),200,?_⟩
   walk_nrm
   repeat (first|refine cL ?_|refine az ?_|(refine cH ?_;simp only[List.size_toArray,List.length_cons,List.length_nil,Nat.reduceAdd,Nat.zero_add,List.range,List.range.loop])|refine aD rfl ?_|refine aA rfl ?_|refine cb ?_|refine cM ?_|refine bQ ?_|refine cd ?_|refine aT ?_|refine bp ?_|(refine aB rfl fun w hF=>?_;refine goes_call rfl rfl (by k_ne) rfl H.f_uLoad (nm_uLoad L) rfl ⟨by u_nil,?_⟩;clear hF w;walk_nrmf uLoadFn)|(refine aB rfl fun w hF=>?_;refine goes_leave1 rfl rfl H.f_uCas rfl ⟨by u_nil,?_⟩;clear hF w;walk_nrm)|(refine cK rfl rfl ?_;walk_nrm)|(refine aB rfl fun w hF=>?_;refine goes_oper_k rfl rfl (by k_ne) (fun K hK=>?_);go_simp;refine hK _ _ ⟨?_,?_⟩;(focus (u_none;intro e he;have hm:=mem_listed he;simp[go_sem, *] at hm));clear hK K hF w;try w_num))
   refine bs ?_
   refine⟨rfl,?_⟩
   refine⟨_,fun _ hw=>stepG_load_atomic (v:=0) rfl rfl (by k_ne) rfl H.f_loadU64 (x_loadU64_n L) (x_loadU64_b L) (x_loadU64_x L) .u64 (x_loadU64_f L) rfl hw.cellSt,200,?_⟩
   walk_nrm
   repeat (first|refine cL ?_|refine az ?_|(refine cH ?_;simp only[List.size_toArray,List.length_cons,List.length_nil,Nat.reduceAdd,Nat.zero_add,List.range,List.range.loop])|refine aD rfl ?_|refine aA rfl ?_|refine cb ?_|refine cM ?_|refine bQ ?_|refine cd ?_|refine aT ?_|refine bp ?_|(refine aB rfl fun w hF=>?_;refine goes_leave1 rfl rfl H.f_uLoad rfl ⟨by u_nil,?_⟩;clear hF w;walk_nrm)|(refine cK rfl rfl ?_;walk_nrm)|(refine aB rfl fun w hF=>?_;refine goes_oper_k rfl rfl (by k_ne) (fun K hK=>?_);go_simp;refine hK _ _ ⟨?_,?_⟩;(focus (u_none;intro e he;have hm:=mem_listed he;simp[go_sem, *] at hm));clear hK K hF w;try w_num))
   refine bs ?_
   refine⟨rfl,_,fun _=>stepG_mark0 .enable (by simp) rfl rfl (by k_ne) rfl H.f_enable (x_enable_n L) (x_enable_b L) (x_enable_x L) (x_enable_f L),200,?_⟩
   walk_nrm
   repeat (first|refine cL ?_|refine az ?_|(refine cH ?_;simp only[List.size_toArray,List.length_cons,List.length_nil,Nat.reduceAdd,Nat.zero_add,List.range,List.range.loop])|refine aD rfl ?_|refine aA rfl ?_|refine cb ?_|refine cM ?_|refine bQ ?_|refine cd ?_|refine aT ?_|refine bp ?_|(refine cK rfl rfl ?_;walk_nrm)|(refine aB rfl fun w hF=>?_;refine goes_oper_k rfl rfl (by k_ne) (fun K hK=>?_);go_simp;refine hK _ _ ⟨?_,?_⟩;(focus (u_none;intro e he;have hm:=mem_listed he;simp[go_sem, *] at hm));clear hK K hF w;try w_num))
   (refine aB rfl fun w hF=>?_;refine goes_oper_k rfl rfl (by k_ne) (fun Kx hKx=>?_);have hcv:=run_convert_to_unsafe (P:=P) H.underlying_tWgP H.underlying_tUP H.room_tWg (WgLive.cell0 hF).choose_spec;have hce:=fun es=>events_convert_to_unsafe (P:=P) H.underlying_tWgP H.underlying_tUP H.room_tWg (WgLive.cell0 hF).choose_spec es;go_simp;refine hKx _ _ ⟨?_,?_⟩;(focus (u_none;intro ex hex;have hmx:=mem_listed hex;simp[go_sem,hce] at hmx));clear hKx Kx hcv hce hF w)
   refine bs ?_
   refine⟨rfl,_,fun _=>stepG_markAt .acquire (by simp) rfl rfl (by k_ne) rfl H.f_acquire (x_acquire_n L) (x_acquire_b L) (x_acquire_x L) (x_acquire_f L) (by simp[Act.eval,stA]),200,?_⟩
   walk_nrm
   repeat (first|refine cL ?_|refine az ?_|(refine cH ?_;simp only[List.size_toArray,List.length_cons,List.length_nil,Nat.reduceAdd,Nat.zero_add,List.range,List.range.loop])|refine aD rfl ?_|refine aA rfl ?_|refine cb ?_|refine cM ?_|refine bQ ?_|refine cd ?_|refine aT ?_|refine bp ?_|(refine cK rfl rfl ?_;walk_nrm)|(refine aB rfl fun w hF=>?_;refine goes_oper_k rfl rfl (by k_ne) (fun K hK=>?_);go_simp;refine hK _ _ ⟨?_,?_⟩;(focus (u_none;intro e he;have hm:=mem_listed he;simp[go_sem, *] at hm));clear hK K hF w;try w_num))
   (refine aB rfl fun w hF=>?_;refine goes_leave0 rfl rfl H.f_wait rfl ⟨by u_nil,?_⟩;clear hF w;walk_nrm)
   exact bs rfl
end
end Go.Proofs.YtgigkennhdolpaaGreatDoor
