/- Company, 60: from a law's walk in company to its row. A symbolic executor with lists, 22: package variables as they are laid: arrays and structures of numbers. The package variables as they are laid; zones and inputs that Go can have. -/
import Derived.Test.YtgigkennhdolpaaGreatDoorM47
import Derived.LaidHandle
import Derived.LaidSub
import Derived.Conc.LeavingOf
import Derived.SevenTiedAt
import Derived.Test.YtgigkennhdolpaaGreatDoorM45
import Derived.Test.YtgigkennhdolpaaGreatDoorM36
namespace Go.Proofs.YtgigkennhdolpaaGreatDoor
open Go.ChangeShapes Go.WideShapes Go.ChangeAt Go.RowKit Go.Conc
section
variable {PP:Program}{C:Cx PP}{H:Type}{enc:TypeId×Value→H}{W:World}{sp:Nat→Bool}{held:Bool}
theorem args_fit:∀{ts:List TypeId} {pts:List Pt} {vs:List Value} {ds:List (DataW H)} {ps:List MemPlace} {r:Reach} {b0:Nat},argPs C.P C.T ts=some pts→(∀(j:Nat) t v,ts[j]? = some t→vs[j]? = some v→Value.okWide C.P W r b0 t v)→
  DataW.TrodAll enc C.P W 0 sp held ts vs ds ps→∃xs,ir pts xs∧aj (zW W) xs vs
 | [],pts,vs,ds,ps,r,b0,h,hv,ht=>by
  obtain rfl:=Oi h
  obtain⟨rfl,-,-⟩:=trodAll_nil ht
  exact⟨[],trivial,rfl⟩
 | t::ts,pts,vs,ds,ps,r,b0,h,hv,ht=>by
  simp only[argPs] at h
  split at h
  ·rename_i p q hp hq
   obtain rfl:=Oi h
   obtain⟨v,vs',d,ds',p',q',rfl,rfl,-,h1,h2⟩:=trodAll_cons ht
   obtain⟨x,k1,k2⟩:=arg_fit hp (hv 0 t v rfl rfl) h1
   obtain⟨xs,k3,k4⟩:=args_fit hq (fun j t v h1 h2=>hv (j+1) t v h1 h2) h2
   exact⟨x::xs,⟨k1,k3⟩,aM k2 k4⟩
  ·cases h
theorem ot:∀{ts:List TypeId} {vs:List Value} {ds:List (DataW H)} {ps:List MemPlace},DataW.TrodAll enc C.P W 0 sp held ts vs ds ps→ds.length=ts.length
 | [],vs,ds,ps,h=>by obtain⟨-,rfl,-⟩:=trodAll_nil h;rfl
 | t::ts,vs,ds,ps,h=>by
  obtain⟨v,vs',d,ds',p',q',rfl,rfl,-,h1,h2⟩:=trodAll_cons h
  simp[ot h2]
theorem law_callsJ{Γ:List (Con C)}{Fs:List (FnI C)}{d:Nat}{f:FuncId}{fn:Func}{α:Type}{pts:List Pt}{vs:List Value}(R:Rds α)(h:How)(hm:C.P.follows .mixedOrders=true)
  (hf:C.P.funcs[f]? = some fn) (hB:fp h.fl fn=true) (hG:C.Grd W) (hp:R.ma=Pt.ma pts) (hx:∃xs,ir pts xs∧aj (zW W) xs vs)
  (he:∀a:α,ir pts (R.enc a)→aX Γ Fs d h fn (R.enc a) fun v H _=>ai (.bl true) H v) :
  bP C.P C.co f vs.toArray W fun e W'=>e=.returned (.bool true)∧Gr W W':=by
 obtain⟨xs,k1,k2⟩:=hx
 have hd:aj (zW W) (R.enc (R.dec xs)) vs:=by
  rw[R.ok,hp]
  exact cg _ _ _ (jK _ _ k1) k2
 have hfit:ir pts (R.enc (R.dec xs)):=by
  rw[R.ok,hp]
  exact fitL_jn _ _ k1
 refine(m8 h hm hf hB hG (fun b i c h=>h) hd (he _ hfit)).mono ?_
 rintro e W' ⟨val,z',rfl,hg,-,hv⟩
 obtain rfl:val=.bool true:=hv
 exact⟨rfl,hg⟩
end
def S0of(w:World)(b:Nat):Prop:=∃o,w.heap[b]? = some o∧¬Obj.plain o
theorem s0_lt{w:World}(b:Nat)(h:S0of w b):b<w.heap.size:=by
 obtain⟨o,h,-⟩:=h
 exact(Array.getElem?_eq_some_iff.1 h).1
theorem s0_plain{w:World}(b:Nat)(o:Obj)(h:¬S0of w b)(e:w.heap[b]? = some o):Obj.plain o:=Classical.byContradiction fun hp=>h ⟨o,e,hp⟩
noncomputable def msk(w:World):World:=mask (S0of w) (fun _=>False) w
theorem msk_size(w:World):(msk w).heap.size=w.heap.size:=by simp[msk,mask]
theorem msk_cell{w:World}{a:Addr}{c:Value}(h:w.cell? a=some c):(msk w).cell? a=some c:=by
 rw[←h]
 refine mask_cell fun⟨o,e,hp⟩=>?_
 unfold World.cell? at h
 rw[e] at h
 cases o with
 | cells _ _ _=>exact hp trivial
 | _=>cases h
theorem msk_zW(W:World):(zW W).le (zW (msk W)):=⟨fun _ _ h=>(by cases h),fun _ _ h=>(by cases h),fun _ _ _ h=>(by cases h),fun _ _ _ h=>⟨msk_cell h.1,h.2⟩⟩
theorem Cx.Grd.msk{PP:Program}{C:Cx PP}{W:World}(h:C.Grd W):C.Grd (msk W):=
 ⟨by rw[msk_size];exact h.1,fun b sb hb=>let ⟨h0,vs,h1,h2⟩:=h.2 b sb hb;⟨h0,vs,h1,fun i v hv=>msk_cell (h2 i v hv)⟩⟩
theorem gr_back{W W' W1 w':World}{S:Nat→Prop}(hg:Gr (msk W) W')(hr:Rv W' W1)(hv:View S (fun _=>False) w' W1)(h0:∀b:Nat,S0of W b→S b∧w'.heap[b]? = W.heap[b]?)(h1:∀b:Nat,S b→S0of W b∨W.heap.size≤b):Gr W w':=by
 have sz:=msk_size W
 refine⟨?_,?_,?_,?_,fun b hb=>?_⟩
 ·rw[hv.os,hr.os,hg.os];rfl
 ·rw[hv.tape,hr.tape,hg.tape];rfl
 ·rw[hv.output,hr.output,hg.output];rfl
 ·have h1:=hg.size
  have h2:=hr.size
  have h3:=hv.size
  omega
 ·by_cases hs:S b
  ·rcases h1 b hs with h|h
   ·exact(h0 b h).2
   ·omega
  ·have hn:¬S0of W b:=fun h=>hs (h0 b h).1
   rw[hv.same b hs (fun h=>h)]
   have e1:W'.heap[b]? = (msk W).heap[b]?:=hg.block b (by omega)
   have e2:(msk W).heap[b]? = W.heap[b]?:=mask_same hn (fun h=>h)
   have e3:W.heap[b]? = some (W.heap[b]'hb):=Array.getElem?_eq_getElem hb
   rw[hr.heap b _ (e1.trans (e2.trans e3)),e3]
section
variable {PP:Program}{C:Cx PP}{W:World}
theorem law_runs{Γ:List (Con C)}{Fs:List (FnI C)}{d:Nat}{f:FuncId}{fn:Func}{α:Type}{pts:List Pt}{vs:List Value}{Φ:Value→World→Prop}(R:Rds α)(h:How)(hm:C.P.follows .mixedOrders=true)(hco:C.co=true)(hi:C.P.inits.idxOf? f=none)
  (hf:C.P.funcs[f]? = some fn) (hB:fp h.fl fn=true) (hG:C.Grd W) (hp:R.ma=Pt.ma pts) (hx:∃xs,ir pts xs∧aj (zW W) xs vs)
  (he:∀a:α,ir pts (R.enc a)→aX Γ Fs d h fn (R.enc a) fun v H _=>ai (.bl true) H v) (hΦ:∀w',Gr W w'→Φ (.bool true) w') :
  ∃M last o w' t',runNT C.P (M+1) (solo (G (Frame.enter C.P f vs.toArray .normal) []) W) #[]=(.ended o w',t')∧runN C.P M (solo (G (Frame.enter C.P f vs.toArray .normal) []) W)=.next last ∧
   step C.P last=.ended o w'∧Conc.Good C.P Φ last o w' t':=by
 obtain⟨xs,k1,k2⟩:=hx
 have hc:=law_callsJ (W:=msk W) R h hm hf hB hG.msk hp ⟨xs,k1,aF (msk_zW W) _ _ k2⟩ he
 rw[hco] at hc
 refine run_of_calls (S0:=S0of W) hi s0_lt s0_plain hc ?_
 rintro e W' ⟨rfl,hg⟩
 exact⟨_,rfl,fun W1 hr S w' hv h0 h1=>hΦ w' (gr_back hg hr hv h0 h1)⟩
end
section
variable {H:Type}{enc:TypeId×Value→H}
theorem leaving_and{a:Assume}{C:Checked}{os:Os}{f:FuncId}{fn:Func}{s:ChangeSpec}{conds:List PathCond}{apart fresh handsOn again:Bool}{X:World→Array Value→Prop}
  (hX:∀(w w':World) (args:Array Value),w.heap=w'.heap→X w args→X w' args)
  (own:ownKnob C.prog.godebug=none) (started:os.Started) (hfn:C.prog.funcs[f]? = some fn)
  (witness:∃(w:World) (tape:Tape) (i:Input),w.os=os∧(w.forCall tape i).Shaped C.prog∧i.vars=[]∧Input.okWide C.prog (w.forCall tape i) .any w.heap.size f i ∧
   ((s.pre enc C.prog fn conds apart (w.forCall tape i).memory i.args∧X (w.forCall tape i).memory i.args)∧sizedMet enc C.prog fn (OpenSpec.ofChange s) apart (w.forCall tape i).memory i.args)∧a.holds C.prog (lone (Frame.enter C.prog f i.args .normal) [] (w.forCall tape i)))
  (runs:∀(W:World) (base:Nat) (args:Array Value) (ds gs:List (DataW H)) (before:List MemPlace),
   (∀(j:Nat) t v,fn.params[j]? = some t→args[j]? = some v→Value.okWide C.prog W .any base t v)→
   DataW.Whole enc C.prog fn.params.toList s.vars apart W args.toList ds gs before→
   conds.all (PathCond.test C.prog ⟨fn.params.toList,ds,s.plain.varTypes C.prog,gs⟩)=true→
   (DataW.weightsEach C.prog (fn.params.toList++s.plain.varTypes C.prog) (ds++gs)).all (·≤reachBytes)=true→X W args→
   a.holds C.prog (lone (Frame.enter C.prog f args .normal) [] W)→
   ∃M last o w' t',runNT C.prog (M+1) (solo (G (Frame.enter C.prog f args .normal) []) W) #[]=(.ended o w',t')∧runN C.prog M (solo (G (Frame.enter C.prog f args .normal) []) W)=.next last ∧
    step C.prog last=.ended o w'∧Conc.Good C.prog (fun v W'=>s.post enc C.prog fn apart fresh handsOn again W args v W') last o w' t') :
  ReturnsInLeavingWide a C os f .any (fun w args=>(s.pre enc C.prog fn conds apart w args∧X w args)∧sizedMet enc C.prog fn (OpenSpec.ofChange s) apart w args) (s.post enc C.prog fn apart fresh handsOn again):=by
 refine returnsInLeavingWide_of_good own started witness ?_
 intro w tape i _ _ _ hok hpre hholds
 obtain⟨_,_,_,fn',hfn',_,_,_,_,hval⟩:=hok
 have e:fn'=fn:=Oi (hfn'.symm.trans hfn)
 subst e
 obtain⟨⟨⟨ds,gs,before,hw,hc⟩,hx⟩,hz⟩:=hpre
 have hw':=DataW.Whole.of_heap (w':=w.forCall tape i) (by rfl) hw
 obtain⟨M,last,o,w',t',h1,h2,h3,h4⟩:=runs (w.forCall tape i) w.heap.size i.args ds gs before hval hw' hc (hz.weights hw) (hX _ _ _ (by rfl) hx) hholds
 exact⟨M,last,o,w',t',h1,h2,h3,h4.mono fun v hp=>ChangeSpec.post_blind hp⟩
end
theorem goes_tied(Lk:Looks){p:Pinned}{s:OpenSpec}{c:OpenClaim}(kinds:List LaidKind)(tests:Bool)(har:Bool×String)(lk:Bool)
  (hc:c.holds p s) (hw:c.wfByText s=true) (htie:c.laidByTextAt Lk p kinds tests)
  (hst:c.start=.entering) (hnb:c.noBlocks=false∧c.again=false) (hm:p.checked.prog.mainIs=some (har.1,har.2.toList)) (hn:(!har.1&&har.2.isEmpty&&!lk)=false)
  (hl:∀f fn,p.checked.prog.funcNamed c.func=some f→p.checked.prog.funcs[f]? = some fn→lk=p.checked.prog.looks []∧∀(j:Nat) t,fn.params[j]? = some t→p.checked.prog.wantsStandIn t=false)
  (hg:true=c.goesBy p.checked.prog) :
  Claim7.holds p (.plain s) {stood:={row:=c,standIns:=[],harness:=har,looks:=lk},kinds:=[],alts:=[],goes:=true,laidByText:=true,laidKinds:=kinds,laidTests:=tests,laidLooks:=Lk}:=by
 have h6:Claim7.isSixth {stood:={row:=c,standIns:=[],harness:=har,looks:=lk},kinds:=[]} = false:=by simpa[Claim7.isSixth] using hn
 have h1:=Claim7.tied_new_at Lk kinds tests (Claim7.new_of_sixth hc har lk hst hnb hm h6 hl) hw
 unfold Claim7.holds
 refine Ai h1 (Ai ?_ (Ai htie (Ai ?_ hg)))
 ·intro D hD
  cases hD
 ·intro h
  cases h
end Go.Proofs.YtgigkennhdolpaaGreatDoor
namespace Go.Proofs.YtgigkennhdolpaaGreatDoor
open Go.ChangeShapes Go.WideShapes Go.ChangeAt Go.RowKit
def flatVs(rec:DataW Unit→Option (List Value)):List (DataW Unit)→Option (List Value)
 | []=>some []
 | d::r=>match rec d,flatVs rec r with|some a,some b=>some (a++b)|_,_=>none
def flatVF(rec:Nat→DataW Unit→Option (List Value))(T:List (Nat×TI))(total:Nat):Nat→List (Nat×Nat)→List (DataW Unit)→Option (List Value)
 | off,[],l=>match l,Nat.beq off total with|[],true=>some []|_,_=>none
 | off,(o,t)::r,l=>match l with
  | []=>none
  | d::ds=>match Nat.beq o off,rec t d,look T t with
   | true,some a,some ti=>match flatVF rec T total (off+ti.sz) r ds with|some b=>some (a++b)|none=>none
   | _,_,_=>none
def flatV(T:List (Nat×TI)):Nat→Nat→DataW Unit→Option (List Value)
 | 0,_,_=>none
 | D+1,t,d=>match look T t with
  | none=>none
  | some ti=>match ti.k,d with
   | .int _,.lit (.int k n)=>some [.int k n]
   | .arr n e,.agg l=>match look T e with
    | some ei=>match Nat.beq (n*ei.sz) ti.sz with|true=>flatVs (flatV T D e) l|false=>none
    | none=>none
   | .struct fs,.agg l=>flatVF (flatV T D) T ti.sz 0 fs l
   | _,_=>none
section
variable {PP:Program}{C:Cx PP}{W:World}{sp:Nat→Bool}{held:Bool}
theorem flat_arr{rec:DataW Unit→Option (List Value)}{sz:Nat}{cs:List Value} : ∀{l:List (DataW Unit)} {vs:List Value} {i:Nat},flatVs rec l=some vs→(∀j d,l[j]? = some d→∀a,rec d=some a→(cs.drop ((i+j)*sz)).take sz=a)→cs.length=(i+l.length)*sz→cs.drop (i*sz)=vs
 | [],vs,i,h,_,hl=>by
  obtain rfl:=Oi h
  rw[List.drop_of_length_le (by rw[hl];simp)]
 | d::r,vs,i,h,hk,hl=>by
  simp only[flatVs] at h
  split at h
  ·rename_i a b ha hb
   obtain rfl:=Oi h
   have h1:=hk 0 d rfl a ha
   rw[Nat.add_zero] at h1
   have h2:=flat_arr (i:=i+1) hb (fun j d' hj a' ha'=>by
    have:=hk (j+1) d' hj a' ha'
    rwa [show i+(j+1)=i+1+j by omega] at this) (by rw[hl];simp only[List.length_cons];congr 1;omega)
   rw[←h1,←h2,Nat.succ_mul,←List.drop_drop,List.take_append_drop]
  ·cases h
theorem flat_fs{rec:Nat→DataW Unit→Option (List Value)}{total:Nat}{cs:List Value}(hcs:cs.length=total):∀{fs:List (Nat×Nat)} {l:List (DataW Unit)} {vs:List Value} {off:Nat},flatVF rec C.T total off fs l=some vs→
  (∀(j:Nat) (f:Nat×Nat) (d:DataW Unit),fs[j]? = some f→l[j]? = some d→∀a,rec f.2 d=some a→(cs.drop f.1).take (C.P.cellsOf f.2)=a)→cs.drop off=vs
 | [],l,vs,off,h,hk=>by
  simp only[flatVF] at h
  split at h
  ·rename_i hb
   obtain rfl:=Oi h
   have:=Nb hb
   rw[List.drop_of_length_le (by omega)]
  ·cases h
 | (o,t)::r,l,vs,off,h,hk=>by
  simp only[flatVF] at h
  split at h
  ·cases h
  ·rename_i d ds
   split at h
   ·rename_i a ti hb ha hti
    split at h
    ·rename_i b hrec
     obtain rfl:=Oi h
     obtain rfl:=Nb hb
     have h1:=hk 0 (o,t) d rfl rfl a ha
     rw[gJ hti] at h1
     have h2:=flat_fs hcs (off:=o+ti.sz) hrec (fun j f d' hf hd=>hk (j+1) f d' hf hd)
     rw[←h1,←h2,←List.drop_drop,List.take_append_drop]
    ·cases h
   ·cases h
theorem nw:∀(D t:Nat) (d:DataW Unit) (vs:List Value),flatV C.T D t d=some vs→∀(fuel:Nat) (cs:List Value) (p:List MemPlace),DataW.trod (fun _=>()) C.P W 0 sp held fuel t cs=some (d,p)→cs=vs
 | 0,t,d,vs,h,_,_,_,_=>by cases h
 | D+1,t,d,vs,h,fuel,cs,p,hx=>by
  simp only[flatV] at h
  split at h
  ·cases h
  rename_i ti hti
  obtain⟨dd,hu,hk⟩:=kS hti
  split at h
  ·rename_i k0 k n hki
   rw[hki] at hk
   obtain rfl:=desc_int hk
   obtain rfl:=Oi h
   obtain⟨m,c1,c2,-⟩:=DataW.trod_int hu hx
   have e:=congrArg Prod.fst c2
   simp only[DataW.lit.injEq,Lit.int.injEq] at e
   obtain⟨rfl,rfl⟩:=e
   exact c1
  ·rename_i n e l hki
   rw[hki] at hk
   obtain rfl:=desc_arr hk
   obtain⟨xs,m,-,hxe,hlen,hxl,hel⟩:=DataW.trod_array hu hx
   have e1:=congrArg Prod.fst hxe
   simp only[DataW.agg.injEq] at e1
   subst e1
   split at h
   ·rename_i ei hei
    split at h
    ·rename_i hb
     have hb:=Nb hb
     rw[gJ hti,←hb] at hlen
     rw[gJ hei] at hel
     have:=flat_arr (sz:=ei.sz) (cs:=cs) (i:=0) h (fun j d' hj a ha=>by
      rw[List.getElem?_map] at hj
      cases hxj:xs[j]? with
      | none=>rw[hxj] at hj;cases hj
      | some y=>
       rw[hxj] at hj
       have hj:y.1=d':=Oi hj
       have hjn:j<n:=by rw[←hxl];exact(List.getElem?_eq_some_iff.1 hxj).1
       have h1:=hel j hjn
       rw[hxj] at h1
       rw[Nat.zero_add]
       exact nw D e y.1 a (by rw[hj];exact ha) m _ y.2 h1) (by rw[hlen];simp[hxl])
     simpa using this
    ·cases h
   ·cases h
  ·rename_i fs l hki
   rw[hki] at hk
   obtain⟨fa,rfl,hfa⟩:=kH hk
   obtain⟨xs,m,-,hxe,hlen,hxl,hg⟩:=DataW.trod_struct hu hx
   have e1:=congrArg Prod.fst hxe
   simp only[DataW.agg.injEq] at e1
   subst e1
   rw[gJ hti] at hlen
   have:=flat_fs (C:=C) hlen h (fun j f d' hf hj a ha=>by
    rw[List.getElem?_map] at hj
    cases hxj:xs[j]? with
    | none=>rw[hxj] at hj;cases hj
    | some y=>
     rw[hxj] at hj
     have hj:y.1=d':=Oi hj
     rw[←hfa,List.getElem?_map] at hf
     cases hfj:fa.toList[j]? with
     | none=>rw[hfj] at hf;cases hf
     | some ff=>
      rw[hfj] at hf
      obtain rfl:(ff.offset,ff.type)=f:=Oi hf
      have h1:=hg j ff (by rw[←Array.getElem?_toList];exact hfj)
      rw[hxj] at h1
      exact nw D ff.type y.1 a (by rw[hj];exact ha) m _ y.2 h1)
   simpa using this
  ·cases h
theorem laid_of:∀{l:List (String×DataW Unit)} {ps:List MemPlace} {n:String} {d:DataW Unit},DataW.LaidVars C.P W l ps→(n,d)∈l→∃g t cs fuel p,C.P.globalNamed n=some g∧(C.P.globals[g]?).map (·.type)=some t∧W.var? C.P n=some cs∧DataW.trod (fun _=>()) C.P W 0 (fun _=>true) false fuel t cs.toList=some (d,p)
 | [],ps,n,d,h,hm=>by cases hm
 | (n',d')::r,ps,n,d,h,hm=>by
  obtain⟨g,t,cs,fuel,p,q,e1,e2,e3,e4,hr,-⟩:=h
  rcases List.mem_cons.1 hm with hm|hm
  ·obtain⟨rfl,rfl⟩:=Prod.mk.inj hm
   exact⟨g,t,cs,fuel,p,e1,e2,e3,e4⟩
  ·exact laid_of hr hm
theorem laid_cells{l:List (String×DataW Unit)}{n:String}{d:DataW Unit}{g t:Nat}{vs:List Value}(h:laidMetH C.P l W)(hm:(n,d)∈l)(hd:d.handleName?.isNone=true)(hg:C.P.globalNamed n=some g)(ht:(C.P.globals[g]?).map (·.type)=some t)(hv:flatV C.T 6 t d=some vs) :
  ∀(i:Nat) (v:Value),vs[i]? = some v→W.cell? ⟨g,i,none⟩=some v:=by
 obtain⟨ps,hV,-⟩:=(laidMetH_iff.1 h).1
 obtain⟨g',t',cs,fuel,p,e1,e2,e3,e4⟩:=laid_of (C:=C) hV (List.mem_filter.2 ⟨hm,hd⟩)
 rw[hg] at e1
 obtain rfl:=Oi e1
 rw[ht] at e2
 obtain rfl:=Oi e2
 intro i v hi
 rw[World.var?_cell hg e3 i]
 have:=nw 6 t d vs hv fuel cs.toList p e4
 rw[←this] at hi
 simpa using hi
end
end Go.Proofs.YtgigkennhdolpaaGreatDoor
namespace Go.Proofs.YtgigkennhdolpaaGreatDoor
open Go.ChangeShapes Go.WideShapes Go.ChangeAt Go.RowKit
def laidZn:List (String×DataW Unit):=[("marches/shape.rooms",Rows.laid_marches_shape_rooms),("marches/store.ranges",Rows.laid_marches_store_ranges)]
theorem door_met(os:Os)(args:Array Value):laidMetH Tryz.prog laidZn ((World.doorLaid Tryz.prog 319 os).forCall (fun _ _=>0) ⟨#[],args,[]⟩).memory:=
 laidMetH_of_parts3 (fuel:=8) (laidMet_of_run' 8 (by kernel_rfl) (by kernel_rfl)) (by kernel_rfl) (by kernel_rfl)
def rangesL:List Int:=[0,0,0,0,0,0,0,0,-1048576,1048576,-1048576,1048576,0,0,0,0,-4096,4096,-4096,4096,0,0,0,0,1,16384,1,16384,0,1,0,1,1,8,0,0,0,0,0,0,0,510,0,0,0,0,0,0,0,15,0,0,0,0,0,0,-2147483648,2147483647,-2147483648,2147483647,-2147483648,2147483647,-2147483648,2147483647,0,1048576,0,1048576,0,0,0,0,0,2147483647,0,2147483647,0,2147483647,0,2147483647,-2147483648,2147483647,-2147483648,2147483647,-2147483648,2147483647,-2147483648,2147483647]
theorem grd_of_laid{W:World}(h:laidMetH Tryz.prog laidZn W):cx.par.Grd W:=by
 have h0:=laid_cells (C:=cx) (n:= "marches/store.ranges") (g:=0) (t:=256) (vs:=rangesL.map (Value.int .i64)) h (List.mem_cons_of_mem _ (List.mem_cons_self ..)) rfl (by kernel_rfl) (by kernel_rfl) (by kernel_rfl)
 have c1:W.cell? ⟨0,0,none⟩=some (.int .i64 0):=h0 0 _ rfl
 refine⟨iK c1,fun b sb hb=>?_⟩
 have hb:look ground b=some sb:=hb
 by_cases e:0=b
 ·subst e
  obtain rfl:=Oi ((show look ground 0=some _ from rfl).symm.trans hb)
  refine⟨(by decide:0<0+1),rangesL.map (Value.int .i64),?_,fun i v hv=>h0 i v hv⟩
  repeat' (first|exact rfl|(refine aM ?_ ?_))
 ·unfold ground at hb
  rw[ae _ _ e] at hb
  cases hb
def ptC:List Pt:=[.int .u8,.int .i64,.int .i64,.int .i64,.int .i64]
def ptE:List Pt:=[.int .i64,.sl 5 ptC]
def ptSys:List Pt:=[.any,.int .u32,.int .u32,.int .i64]
def ptPrg:List Pt:=[.sl 2 [.int .u8,.int .i64],.int .i64,.int .u32,.int .u32]
def ptZon:List Pt:=[.int .i64,.int .i64,.int .i64,.int .i64,.int .i64,.sl 2 ptE,.sl 4 ptSys,.sl 4 ptPrg,.int .u64,.int .i64,.sl 3 [.int .i64,.int .i64,.int .i64],.int .i64,.int .i64]
def ptInp:List Pt:=[.int .i64,.int .i64,.int .i64,.int .i64,.int .i64,.bool,.int .i64,.int .i64,.int .i64,.int .i64]
theorem cms_fit{l:Cms}(h:Fit (.sl 5 ptC) l.sv):l.Sm:=by
 obtain⟨-,h1,h2⟩:=h
 simp only[maxLen] at h1
 refine⟨?_,fun i hi=>?_⟩
 ·show (l.n:Int)≤9223372036854775807
  omega
 ·have h:0≤(l.c i).kind∧(l.c i).kind≤255:=(h2 i hi).1.2
  exact h
theorem ens_fit{l:Ens}(h:Fit (.sl 2 ptE) l.sv):l.Sm:=by
 obtain⟨-,h1,h2⟩:=h
 simp only[maxLen] at h1
 refine⟨?_,fun i hi=>?_⟩
 ·show (l.n:Int)≤9223372036854775807
  omega
 ·exact cms_fit (h2 i hi).2.1
theorem mO{n:Nat}(h:n≤maxLen):(n:Int)≤cJ:=by
 simp only[maxLen] at h
 show (n:Int)≤9223372036854775807
 omega
theorem zon_fit{z:Zon}(h:ir ptZon z.cells):z.Sm:=by
 obtain⟨-,-,-,-,-,h1,⟨-,h2,h6⟩,⟨-,h3,h4⟩,-,-,⟨-,h5,-⟩,-⟩:=h
 refine⟨ens_fit h1,mO h2,mO h3,fun i hi=>mO (h4 i hi).1.2.1,mO h5,fun i hi=>?_⟩
 have h7:Fit .any (z.setupSystems.e i).name:=(h6 i hi).1
 unfold Fit at h7
 split at h7
 ·rename_i s e
  exact⟨s,e⟩
 ·exact h7.elim
theorem inps_fit{l:bw}(h:Fit (.sl 10 ptInp) l.sv):(l.n:Int)≤cJ∧∀i,i<l.n→InR (l.e i).moveX∧InR (l.e i).moveY:=
 ⟨mO h.2.1,fun i hi=>⟨(h.2.2 i hi).2.2.2.1.2,(h.2.2 i hi).2.2.2.2.1.2⟩⟩
end Go.Proofs.YtgigkennhdolpaaGreatDoor
