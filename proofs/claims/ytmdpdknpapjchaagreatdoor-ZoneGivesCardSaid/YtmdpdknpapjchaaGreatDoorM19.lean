/- Company, 62: code walked in a frame that. -/
import Derived.Test.YtmdpdknpapjchaaGreatDoorM0
import Derived.AtR
set_option linter.all false
namespace Go.Proofs.YtmdpdknpapjchaaGreatDoor
open Go.Conc
variable {a:Act}{ops:Array Oper}{co t:Bool}{c x y:Code}{rest:List Nat}{i id:Nat}{o:Oper}{P:Program}{w':World}
section
variable {main:Bool}{b:Frame}{k:List Item}{cs:List Frame}{w:World}
theorem Cn:stepG P main (G (b.atR a (.code .skip::k)) cs) w=.go (G (b.atR a k) cs) w:=by simp[G,stepG,stepG.exec,Frame.atR]
theorem vA : stepG P main (G (b.atR a (.inBlock id::k)) cs) w=.go (G (b.atR a k) cs) w:=by simp[G,stepG,stepG.exec,Frame.atR]
theorem GI : stepG P main (G (b.atR a (.code (.seq x y)::k)) cs) w=.go (G (b.atR a (.code x::.code y::k)) cs) w:=by simp[G,stepG,stepG.exec,Frame.atR]
theorem Cr{c:Operand}(h:a.eval c=.bool t) :
  stepG P main (G (b.atR a (.code (.cond c x y)::k)) cs) w=.go (G (b.atR a (.code (if t then x else y)::k)) cs) w:=by
 have h':=congrFun (Frame.eval_atR b a (.code (.cond c x y)::k)) c;rw[h] at h';simp only[Frame.atR] at h';simp[G,stepG,stepG.exec,Frame.atR,h']
theorem zn : stepG P main (G (b.atR a (.code (.block id c)::k)) cs) w=.go (G (b.atR a (.code c::.inBlock id::k)) cs) w:=by simp[G,stepG,stepG.exec,Frame.atR]
theorem Cp : stepG P main (G (b.atR a (.code (.loop c)::k)) cs) w=.go (G (b.atR a (.code c::.inLoop c::k)) cs) w:=by simp[G,stepG,stepG.exec,Frame.atR]
theorem xy : stepG P main (G (b.atR a (.inLoop c::k)) cs) w=.go (G (b.atR a (.code c::.inLoop c::k)) cs) w:=by simp[G,stepG,stepG.exec,Frame.atR]
theorem Cq{k':List Item}(h:exitTo id k=some k'):stepG P main (G (b.atR a (.code (.exit id)::k)) cs) w=.go (G (b.atR a k') cs) w:=by simp[G,stepG,stepG.exec,Frame.atR,h]
theorem xx : stepG P main (G (b.atR a (.code (.region id ops false)::k)) cs) w=.go (G (b.atR a (.inRegion ops (List.range ops.size)::k)) cs) w:=by simp[G,stepG,stepG.exec,Frame.atR]
theorem pT : stepG P main (G (b.atR a (.inRegion ops []::k)) cs) w=.go (G (b.atR a k) cs) w:=by simp[G,stepG,stepG.exec,Frame.atR]
theorem tg(ho:ops[i]? = some o)(hw:Region.wanted o (yielded ops a.tmps)=false) :
  stepG P main (G (b.atR a (.inRegion ops (i::rest)::k)) cs) w=.go (G (b.atR (a.put o.dst undef) (.inRegion ops rest::k)) cs) w:=by
 have Y5:(b.atR a (.inRegion ops (i::rest)::k)).finish undef=b.atR (a.put o.dst undef) (.inRegion ops rest::k):=by rw[Frame.finish_atR,ho];rfl
 rw[<-Y5];simp[G,stepG,stepG.exec,Frame.atR,ho,hw]
theorem kW(ho:ops[i]? = some o)(hw:Region.wanted o (yielded ops a.tmps)=true)(hd:∀c,o.op≠.defer c) :
  stepG P main (G (b.atR a (.inRegion ops (i::rest)::k)) cs) w=stepG.apply P true (b.atR a (.inRegion ops (i::rest)::k)) cs none (execOp a.eval o) w:=by
 have he:=Frame.eval_atR b a (.inRegion ops (i::rest)::k);have e:=Oper.semAt_eq b.roundOf a.eval o hd;rw[<-e];simp only[Frame.atR] at he;simp only[G,stepG,stepG.exec,stepG.oper,Frame.oper?,Frame.atR,ho,hw,he,Option.map_some,Option.getD_some,if_true,Oper.semAt];cases b.roundOf<;>cases o.op<;>rfl
theorem zk{v:Value}(ho:ops[i]? = some o)(hw:Region.wanted o (yielded ops a.tmps)=true)(hk:b.kind≠.early)(hd:∀c,o.op≠.defer c)(hr:(execOp a.eval o).run P w=.ok (.value v) w') :
  stepG P main (G (b.atR a (.inRegion ops (i::rest)::k)) cs) w=.go (G (b.atR (a.put o.dst v) (.inRegion ops rest::k)) cs) w' (listed P b.fn a o w):=by
 have Y5:(b.atR a (.inRegion ops (i::rest)::k)).finish v=b.atR (a.put o.dst v) (.inRegion ops rest::k):=by rw[Frame.finish_atR,ho];rfl
 have ZH:(b.kind==CallKind.early)=false:=by simpa using hk
 rw[kW ho hw hd,<-Y5];simp[stepG.apply,hr,G,Frame.atR,ZH,GStep.after,listed]
theorem Co(ho:ops[i]? = some o)(hw:Region.wanted o (yielded ops a.tmps)=true)(hk:b.kind≠.early)(hd:∀c,o.op≠.defer c)(hr:(execOp a.eval o).run P w=.ok .skip w') :
  stepG P main (G (b.atR a (.inRegion ops (i::rest)::k)) cs) w=.go (G (b.atR (a.put o.dst undef) (.inRegion ops rest::k)) cs) w' (listed P b.fn a o w):=by
 have Y5:(b.atR a (.inRegion ops (i::rest)::k)).finish undef=b.atR (a.put o.dst undef) (.inRegion ops rest::k):=by rw[Frame.finish_atR,ho];rfl
 have ZH:(b.kind==CallKind.early)=false:=by simpa using hk
 rw[kW ho hw hd,<-Y5];simp[stepG.apply,hr,G,Frame.atR,ZH,GStep.after,listed]
theorem zm{f:FuncId}{args:Array Value}(ho:ops[i]? = some o)(hw:Region.wanted o (yielded ops a.tmps)=true)(hk:b.kind≠.early)(hd:∀c,o.op≠.defer c)(hr:(execOp a.eval o).run P w=.ok (.enter f args) w') :
  stepG P main (G (b.atR a (.inRegion ops (i::rest)::k)) cs) w=.go (G (Frame.enter P f args .normal) (b.atR a (.inRegion ops (i::rest)::k)::cs)) w' (listed P b.fn a o w):=by
 have ZH:(b.kind==CallKind.early)=false:=by simpa using hk
 rw[kW ho hw hd];simp[stepG.apply,hr,G,Frame.atR,ZH,GStep.after,listed]
theorem zl{l:Nat}{fn:FuncId}{tmps:Array Value}{YI body:Code}(ho:ops[i]? = some o)(hw:Region.wanted o (yielded ops a.tmps)=true)(hk:b.kind≠.early)(hd:∀c,o.op≠.defer c)(hr:(execOp a.eval o).run P w=.ok (.round l fn tmps YI body) w') :
  stepG P main (G (b.atR a (.inRegion ops (i::rest)::k)) cs) w=.go (G (Frame.round l fn tmps YI body .normal) (b.atR a (.inRegion ops (i::rest)::k)::cs)) w' (listed P b.fn a o w):=by
 have ZH:(b.kind==CallKind.early)=false:=by simpa using hk
 rw[kW ho hw hd];simp[stepG.apply,hr,G,Frame.atR,ZH,GStep.after,listed]
end
theorem xP{w:World}{K:Act->World->Prop}(h:c8 P co o a w K):∀c,o.op≠.defer c:=by
 intro c e;unfold c8 at h;have key:∀r,(execOp a.eval o).run P w=r->¬zd P co o a K r:=by
  intro r hr;have e2:execOp a.eval o=(resolve a.eval c o.type >>= λd=>pure (Next.defer d)):=(by unfold execOp;rw[e]);rw[e2,Xz] at hr;subst hr;cases (resolve a.eval c o.type).run P w with
  | halt x w'=>exact λh=>h
  | ok x w'=>exact λh=>h
 exact key _ rfl h
def Xe(E:Goroutine->World->Prop)(b:Frame)(k:List Item)(cs:List Frame):Exit->Act->World->Prop
 | .normal,a,w=>E (G (b.atR a k) cs) w
 | .exit id,a,w=>∃k',exitTo id k=some k'∧E (G (b.atR a k') cs) w
 | .ret,a,w=>b.roundOf=none∧∀todo,E (G {b.atR a todo with mode:=.returning} cs) w
 | _,_,_=>True
def wpR(P:Program)(co:Bool)(c:Code)(Q:Exit->Act->World->Prop)(a:Act)(W:World):Prop:=
 ∀E,Closed P co E->∀(b:Frame) (k:List Item) (cs:List Frame),b.kind≠.early->(∀e a' w',Q e a' w'->OA e∧Xe E b k cs e a' w')->E (G (b.atR a (.code c::k)) cs) W
section
variable {Q Q':Exit->Act->World->Prop}{W:World}
theorem wpR.toJ(h:wpR P co c Q a W):wpJ P co c Q a W:=by
 intro E hE b k cs h1 h2 h3;have:=h E hE b k cs h1 λe a' w' hq=>⟨(h3 e a' w' hq).1,by
  have h4:=(h3 e a' w' hq).2;cases e with
  | normal=>show E _ _;rw[Frame.atR_of_none h2];exact h4
  | exit id=>obtain⟨k',h5,h6⟩:=h4;refine⟨k',h5,?_⟩;rw[Frame.atR_of_none h2];exact h6
  | ret=>refine⟨h2,λtodo=>?_⟩;rw[Frame.atR_of_none h2];exact h4 todo
  | goto l=>trivial
  | panic c=>trivial
  | outgrown=>trivial⟩
 rwa [Frame.atR_of_none h2] at this
theorem eN(h:wpR P co c Q a W)(k:∀e a w,Q e a w->Q' e a w):wpR P co c Q' a W:=λE hE b t cs h1 h3=>h E hE b t cs h1 λe a' w' hq=>h3 e a' w' (k e a' w' hq)
theorem J1{E:Goroutine->World->Prop}(hE:Closed P co E){b:Frame}{k:List Item}{cs:List Frame}(hk:b.kind≠.early)(ho:ops[i]? = some o)(hw:Region.wanted o (yielded ops a.tmps)=true){K:Act->World->Prop}(h:OpJ P co o a W K)(hK:∀a' w',K a' w'->E (G (b.atR a' (.inRegion ops rest::k)) cs) w'):E (G (b.atR a (.inRegion ops (i::rest)::k)) cs) W:=by
 refine hE.step rfl λW1 h1=>?_;have hu:=h.2 W1 h1;have hd:=xP hu;unfold c8 at hu;cases hr:(execOp a.eval o).run P W1 with
 | halt x w'=>rw[hr] at hu;exact hu.elim
 | ok x w'=>
  rw[hr] at hu;cases x with
  | value v=>
   refine⟨_,w',λmain S R w hv=>?_,hK _ _ hu⟩;obtain⟨u,k1,k2,kk,k3⟩:=ck #[] h.1 hv hr;refine⟨u,_,zk ho hw hk hd k1,k2,kk,λe he=>?_⟩;rcases k3 e (mem_listed he) with q|q;simp at q;exact q
  | skip=>
   refine⟨_,w',λmain S R w hv=>?_,hK _ _ hu⟩;obtain⟨u,k1,k2,kk,k3⟩:=ck #[] h.1 hv hr;refine⟨u,_,Co ho hw hk hd k1,k2,kk,λe he=>?_⟩;rcases k3 e (mem_listed he) with q|q;simp at q;exact q
  | enter f args=>
   refine⟨G (Frame.enter P f args .normal) (b.atR a (.inRegion ops (i::rest)::k)::cs),w',λmain S R w hv=>?_,?_⟩;obtain⟨u,k1,k2,kk,k3⟩:=ck #[] h.1 hv hr;refine⟨u,_,zm ho hw hk hd k1,k2,kk,λe he=>?_⟩;rcases k3 e (mem_listed he) with q|q;simp at q;exact q;have hu:bj P co f args w' _:=hu;refine hu E hE _ λe w2 fr hR _ hl=>?_;cases e with
   | panicked c=>exact hR.elim
   | outgrown=>exact hR.elim
   | returned v=>
    have hR:K (a.put o.dst v) w2:=hR;obtain⟨l1,l2,l3,fn,l4,l5⟩:=hl;refine hE.step rfl λW3 h3=>⟨G (b.atR (a.put o.dst v) (.inRegion ops rest::k)) cs,W3,λmain S R w hv=>?_,hE.mono (hK _ _ hR) h3⟩
    have e1:=pd h3 hv (dz fn fr.tmps) l5;obtain⟨u,k1,k2,kk,k3⟩:=ck #[] (dz fn fr.tmps).ns hv e1;refine⟨u,seen P fr.fn ((results fn fr.tmps).events P w #[]),?_,k2,kk,λe he=>?_⟩;have Y5:(b.atR a (.inRegion ops (i::rest)::k)).finish v=b.atR (a.put o.dst v) (.inRegion ops rest::k):=(by rw[Frame.finish_atR,ho];rfl);rw[<-Y5];obtain⟨ffn,ftmps,ftodo,fdefers,fmode,fkind,fround⟩:=fr;simp only at l1 l2 l3 l4 k1;subst l1 l2 l3;simp[G,stepG,unwind,doReturn,l4,k1,GStep.after];rcases k3 e (mem_seen he) with q|q;simp at q;exact q
  | round l fn tmps YI body=>
   refine⟨G (Frame.round l fn tmps YI body .normal) (b.atR a (.inRegion ops (i::rest)::k)::cs),w',λmain S R w hv=>?_,?_⟩;obtain⟨u,k1,k2,kk,k3⟩:=ck #[] h.1 hv hr;refine⟨u,_,zl ho hw hk hd k1,k2,kk,λe he=>?_⟩;rcases k3 e (mem_listed he) with q|q;simp at q;exact q;have hu:kl P co l fn tmps YI body w' _:=hu;refine hu E hE _ _ λv w2 hR=>?_;have Y5:(b.atR a (.inRegion ops (i::rest)::k)).finish v=b.atR (a.put o.dst v) (.inRegion ops rest::k):=(by rw[Frame.finish_atR,ho];rfl);rw[Y5];exact hK _ _ hR
  | _=>exact hu.elim
theorem oy{E:Goroutine->World->Prop}(hE:Closed P co E){b:Frame}{k:List Item}{cs:List Frame}(hk:b.kind≠.early){ops:Array Oper}(hQ:∀a' w',Q .normal a' w'->E (G (b.atR a' k) cs) w') :
  ∀(l:List Nat) (a:Act) (W:World),eX P co ops Q l a W->E (G (b.atR a (.inRegion ops l::k)) cs) W
 | [],a,W,h=>hE.cr rfl (λ_ _=>pT) (hQ a W h)
 | i::rest,a,W,h=>by
  have ih:=oy (ops:=ops) hE hk hQ rest;cases ho:ops[i]? with
  | none=>
   simp only[eX,ho] at h;refine hE.cr rfl (λmain w=>?_) (ih a W h);have Y5:(b.atR a (.inRegion ops (i::rest)::k)).finish undef=b.atR a (.inRegion ops rest::k):=(by rw[Frame.finish_atR,ho];rfl);rw[<-Y5];simp[G,stepG,stepG.exec,Frame.atR,ho]
  | some o=>
  simp only[eX,ho] at h;split at h;rename_i hw;exact J1 hE hk ho hw h λa' w' h'=>ih a' w' h';rename_i hw;exact hE.cr rfl (λ_ _=>tg ho (by simpa using hw)) (ih _ _ h)
theorem lT(h:cL P co ops Q ops.toList a W):wpR P co (.region id ops false) Q a W:=by
 intro E hE b k cs h1 h3;refine hE.cr rfl (λ_ _=>xx) ?_;have h:=qT ops.toList 0 (λj=>by simp) a W h;have e:List.range' 0 ops.toList.length=List.range ops.size:=by rw[List.range_eq_range'];simp
 rw[e] at h;exact oy hE h1 (λa' w' hq'=>(h3 _ _ _ hq').2) _ a W h
theorem l8(hm:P.follows .mixedOrders=true)(h:∀W1,Rv W W1->mc P co .any ops Q ops.size (Array.replicate ops.size false) a W1):wpR P co (.region id ops true) Q a W:=by
 intro E hE b k cs h1 h3;refine hE.step rfl λW1 r1=>?_;obtain⟨t,ht⟩:∃t,t=(Question.order b.fn id).cut (W1.tape W1.drawn (.order b.fn id)):=⟨_,rfl⟩
 refine⟨G (b.atR a (.inRegion ops (Region.schedule (P.follows .mixedOrders) ops t)::k)) cs,W1.drew,λmain S R w hv=>⟨w.drew,#[],?_,hv.drew,⟨F2 _,λ_ _=>rfl,rfl,rfl,rfl⟩,λe he=>by simp at he⟩,?_⟩;have hc:(choose (.order b.fn id)).run P w=.ok t w.drew:=(by rw[ht,<-hv.tape,<-hv.drawn];rfl);generalize hqq:choose (.order b.fn id)=qq at hc;simp[G,stepG,stepG.exec,Frame.atR,hqq,hc];refine oy hE h1 (λa' w' hq'=>(h3 _ _ _ hq').2) _ a _ ?_;simp only[Region.schedule,hm,Bool.true_or,if_true];exact oR ops.size t _ a _ (h _ (r1.trans (Rv.drew W1)))
theorem sU(h:Q .normal a W):wpR P co .skip Q a W:=λ_ hE _ _ _ _ h3=>hE.cr rfl (λ_ _=>Cn) (h3 _ _ _ h).2
theorem jK(h:wpR P co x (Exit.then (wpR P co y Q) Q) a W):wpR P co (.seq x y) Q a W:=by
 intro E hE b k cs h1 h3;refine hE.cr rfl (λ_ _=>GI) (h E hE b (.code y::k) cs h1 λe a' w' hq=>?_);cases e with
 | normal=>exact⟨trivial,hq E hE b k cs h1 h3⟩
 | exit id=>
  obtain⟨-,k',e1,e2⟩:=h3 (.exit id) _ _ hq;exact⟨trivial,k',by simpa[exitTo] using e1,e2⟩
 | ret=>exact h3 .ret _ _ hq
 | goto l=>exact h3 (.goto l) _ _ hq
 | panic c=>exact h3 (.panic c) _ _ hq
 | outgrown=>exact h3 .outgrown _ _ hq
theorem oP{c:Operand}(hc:a.eval c=.bool t)(h:wpR P co (if t then x else y) Q a W):wpR P co (.cond c x y) Q a W:=
 λE hE b k cs h1 h3=>hE.cr rfl (λ_ _=>Cr hc) (h E hE b k cs h1 h3)
theorem jY{c:Operand}(hc:a.eval c=.bool true)(h:wpR P co x Q a W):wpR P co (.cond c x y) Q a W:=oP hc h
theorem jl{c:Operand}(hc:a.eval c=.bool false)(h:wpR P co y Q a W):wpR P co (.cond c x y) Q a W:=oP hc h
theorem l9{c:Operand}(hc:a.eval c=.bool t)(h1:t=true->wpR P co x Q a W)(h2:t=false->wpR P co y Q a W):wpR P co (.cond c x y) Q a W:=by
 cases t with
 | true=>exact oP hc (h1 rfl)
 | false=>exact oP hc (h2 rfl)
theorem pM(h:wpR P co c (Exit.inBlock id Q) a W):wpR P co (.block id c) Q a W:=by
 intro E hE b k cs h1 h3;refine hE.cr rfl (λ_ _=>zn) (h E hE b (.inBlock id::k) cs h1 λe a' w' hq=>?_);cases e with
 | normal=>exact⟨trivial,hE.cr rfl (λ_ _=>vA) (h3 .normal _ _ hq).2⟩
 | exit i=>
  have hq2:if i=id then Q .normal a' w' else Q (.exit i) a' w':=hq;refine⟨trivial,?_⟩;by_cases e:i=id;rw[Xl e] at hq2;subst e;exact⟨k,by simp[exitTo],(h3 .normal _ _ hq2).2⟩;rw[Xk e] at hq2;obtain⟨-,k',e1,e2⟩:=h3 (.exit i) _ _ hq2;exact⟨k',by simpa[exitTo,e,Ne.symm e] using e1,e2⟩
 | ret=>exact h3 .ret _ _ hq
 | goto l=>exact h3 (.goto l) _ _ hq
 | panic c=>exact h3 (.panic c) _ _ hq
 | outgrown=>exact h3 .outgrown _ _ hq
theorem y7(h:Q (.exit id) a W):wpR P co (.exit id) Q a W:=λE hE b k cs h1 h3=>by obtain⟨-,k',e1,e2⟩:=h3 _ _ _ h;exact hE.cr rfl (λ_ _=>Cq e1) e2
theorem Ny(h:Q .ret a W):wpR P co .ret Q a W:=λE hE b k cs h1 h3=>by obtain⟨-,h2,h4⟩:=h3 .ret _ _ h;exact hE.cr rfl (λmain w=>by simp[G,stepG,stepG.exec,Frame.atR,h2]) (h4 (.code .ret::k))
theorem sV(I:Nat->Act->World->Prop)(n0:Nat)(h0:I n0 a W)(round:∀n a w,I n a w->wpR P co c (Exit.then (λa' w'=>∃m,m<n∧I m a' w') Q) a w):wpR P co (.loop c) Q a W:=by
 intro E hE b k cs h1 h3;have key:∀n a w,I n a w->E (G (b.atR a (.code c::.inLoop c::k)) cs) w:=by
  intro n
  induction n using Nat.strongRecOn with
  | _ n ih=>
   intro a w hI;refine round n a w hI E hE b (.inLoop c::k) cs h1 λe a' w' hq=>?_;cases e with
   | normal=>
    obtain⟨m,hm,hI'⟩:=hq;exact⟨trivial,hE.cr rfl (λ_ _=>xy) (ih m hm a' w' hI')⟩
   | exit id=>
    obtain⟨-,k',e1,e2⟩:=h3 (.exit id) _ _ hq;exact⟨trivial,k',by simpa[exitTo] using e1,e2⟩
   | ret=>exact h3 .ret _ _ hq
   | goto l=>exact h3 (.goto l) _ _ hq
   | panic c=>exact h3 (.panic c) _ _ hq
   | outgrown=>exact h3 .outgrown _ _ hq
 exact hE.cr rfl (λ_ _=>Cp) (key n0 a W h0)
end
end Go.Proofs.YtmdpdknpapjchaaGreatDoor
