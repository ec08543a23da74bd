/- Company: sync.WaitGroup's Add(1), walked (by the kit's words). -/
import Derived.Test.YtgigkennhdolpaaGreatDoorM23
namespace Go.Proofs.YtgigkennhdolpaaGreatDoor
open Go.Conc Go.ConcN Go.RowKit Go.Conc.Lib Go.ConcR.Gen Go.ConcN.Gen
open Go.ConcR (KK wgBlock WgAt stA smA rd wr mk DC0)
section
variable {P:Program}{L:WgLink}{Wg:Nat}{b₀:Frame}{a₀:Act}{ops₀:Array Oper}{i₀:Nat}{rest₀:List Nat}{k₀:List Item}{cs:List Frame}
set_option maxRecDepth 100000 in
set_option maxHeartbeats 8000000 in
theorem add_walk(H:WgLib P L):AddW P true L.tWg Wg (Back b₀ a₀ ops₀ i₀ rest₀ k₀ cs)
  (G ((base L.add).at ⟨#[.pointer (some ⟨Wg,0,none⟩),.int .i64 1,undef,undef,undef,undef,undef,undef,undef,undef,undef,undef,undef,undef,undef,undef,undef,undef,undef,undef,undef,undef,undef,undef,undef,undef,undef,undef,undef,undef,undef,undef,undef,undef,undef,undef,undef,undef,undef,undef,undef,undef,undef,undef,undef,undef,undef,undef,undef,undef,undef,undef,undef,undef,undef,undef,undef,undef,undef,undef,undef,undef,undef,undef,undef,undef,undef,undef,undef,undef,undef,undef,undef,undef,undef,undef,undef,undef,undef,undef,undef,undef,undef,undef,undef,undef,undef,undef,undef,undef,undef,undef,undef,undef,undef,undef,undef,undef,undef,undef,undef,undef,undef,undef,undef,undef,undef,undef,undef,undef,undef,undef,undef,undef,undef,undef,undef],[]⟩ [.code (body_add L)]) (b₀.at a₀ (.inRegion ops₀ (i₀::rest₀)::k₀)::cs)):=by
 lib_facts
 simp only[body_add,addFn,Option.getD_some]
 refine⟨60,?_⟩
 repeat (first|refine cL ?_|refine az ?_|(refine cH ?_;simp only[List.size_toArray,List.length_cons,List.length_nil,Nat.reduceAdd,Nat.zero_add,List.range,List.range.loop])|refine aD rfl ?_|refine aA rfl ?_|refine cb ?_|refine cM ?_|refine bQ ?_|refine cd ?_|refine aT ?_|refine bp ?_|(refine cK rfl rfl ?_;walk_nrm)|(refine aB rfl fun w hF=>?_;refine goes_oper_k rfl rfl (by k_ne) (fun K hK=>?_);go_simp;refine hK _ _ ⟨?_,?_⟩;(focus (u_none;intro e he;have hm:=mem_listed he;simp[go_sem, *] at hm));clear hK K hF w;try w_num))
 refine bs ?_
 refine⟨rfl,_,fun _=>stepG_mark0 .disable (by simp) rfl rfl (by k_ne) rfl H.f_disable (x_disable_n L) (x_disable_b L) (x_disable_x L) (x_disable_f L),200,?_⟩
 walk_nrm
 repeat (first|refine cL ?_|refine az ?_|(refine cH ?_;simp only[List.size_toArray,List.length_cons,List.length_nil,Nat.reduceAdd,Nat.zero_add,List.range,List.range.loop])|refine aD rfl ?_|refine aA rfl ?_|refine cb ?_|refine cM ?_|refine bQ ?_|refine cd ?_|refine aT ?_|refine bp ?_|(refine aB rfl fun w hF=>?_;refine goes_call rfl rfl (by k_ne) rfl H.f_uAdd (nm_uAdd L) rfl ⟨by u_nil,?_⟩;clear hF w;walk_nrmf uAddFn)|(refine cY rfl (fun _=>stepG_defer rfl rfl (by k_ne) rfl) ?_;walk_nrm)|(refine cY rfl (fun _=>stepG_entry_pure (.bool false) rfl rfl (by k_ne) rfl H.f_inBubble (x_inBubble_n L) (x_inBubble_b L) (x_inBubble_x L) (x_inBubble_f L)) ?_;walk_nrm)|(refine cK rfl rfl ?_;walk_nrm)|(refine aB rfl fun w hF=>?_;refine goes_oper_k rfl rfl (by k_ne) (fun K hK=>?_);go_simp;refine hK _ _ ⟨?_,?_⟩;(focus (u_none;intro e he;have hm:=mem_listed he;simp[go_sem, *] at hm));clear hK K hF w;try w_num))
 refine bs ?_
 have e0:IntKind.u64.wrap (0+4294967296)=KK:=by decide
 refine⟨rfl,_,fun _ hw=>(stepG_add_atomic rfl rfl (by k_ne) rfl H.f_addU64 (x_addU64_n L) (x_addU64_b L) (x_addU64_x L) .u64 (x_addU64_f L) rfl rfl hw.cellSt (hw.thaw 0)).trans (by rw[e0];rfl),200,?_⟩
 simp only[KK]
 walk_nrm
 repeat (first|refine cL ?_|refine az ?_|(refine cH ?_;simp only[List.size_toArray,List.length_cons,List.length_nil,Nat.reduceAdd,Nat.zero_add,List.range,List.range.loop])|refine aD rfl ?_|refine aA rfl ?_|refine cb ?_|refine cM ?_|refine bQ ?_|refine cd ?_|refine aT ?_|refine bp ?_|(refine aB rfl fun w hF=>?_;refine goes_leave1 rfl rfl H.f_uAdd rfl ⟨by u_nil,?_⟩;clear hF w;walk_nrm)|(refine cK rfl rfl ?_;walk_nrm)|(refine aB rfl fun w hF=>?_;refine goes_oper_k rfl rfl (by k_ne) (fun K hK=>?_);go_simp;refine hK _ _ ⟨?_,?_⟩;(focus (u_none;intro e he;have hm:=mem_listed he;simp[go_sem, *] at hm));clear hK K hF w;try w_num))
 (refine aB rfl fun w hF=>?_;refine goes_oper_k rfl rfl (by k_ne) (fun Kx hKx=>?_);have hcv:=run_convert_to_unsafe (P:=P) H.underlying_tPU32 H.underlying_tUP H.room_tU32 (WgLive.cell1 hF).choose_spec;have hce:=fun es=>events_convert_to_unsafe (P:=P) H.underlying_tPU32 H.underlying_tUP H.room_tU32 (WgLive.cell1 hF).choose_spec es;go_simp;refine hKx _ _ ⟨?_,?_⟩;(focus (u_none;intro ex hex;have hmx:=mem_listed hex;simp[go_sem,hce] at hmx));clear hKx Kx hcv hce hF w)
 refine bs ?_
 refine⟨rfl,_,fun _=>stepG_markAt .read (by simp) rfl rfl (by k_ne) rfl H.f_raceRead (x_raceRead_n L) (x_raceRead_b L) (x_raceRead_x L) (x_raceRead_f L) (ad:=⟨Wg,1,none⟩) (by simp[Act.eval]),200,?_⟩
 walk_nrm
 repeat (first|refine cL ?_|refine az ?_|(refine cH ?_;simp only[List.size_toArray,List.length_cons,List.length_nil,Nat.reduceAdd,Nat.zero_add,List.range,List.range.loop])|refine aD rfl ?_|refine aA rfl ?_|refine cb ?_|refine cM ?_|refine bQ ?_|refine cd ?_|refine aT ?_|refine bp ?_|(refine cK rfl rfl ?_;walk_nrm)|(refine aB rfl fun w hF=>?_;refine goes_oper_k rfl rfl (by k_ne) (fun K hK=>?_);go_simp;refine hK _ _ ⟨?_,?_⟩;(focus (u_none;intro e he;have hm:=mem_listed he;simp[go_sem, *] at hm));clear hK K hF w;try w_num))
 refine bs ?_
 refine⟨rfl,_,fun _=>stepG_unwind_entry (v:=.tuple #[]) (evs:=#[mk .enable]) rfl H.f_enable (x_enable_n L) (x_enable_b L) (x_enable_x L) (x_enable_f L) (by simp[Extern.Race.none_]) (by simp[mk]) (by simp[mk]),2,?_⟩
 (refine aB rfl fun w hF=>?_;refine goes_leave0 rfl rfl H.f_add rfl ⟨by u_nil,?_⟩;clear hF w;walk_nrm)
 exact bs rfl
end
end Go.Proofs.YtgigkennhdolpaaGreatDoor
