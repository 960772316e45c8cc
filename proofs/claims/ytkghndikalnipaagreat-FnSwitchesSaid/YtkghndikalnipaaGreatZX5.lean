import Derived.Test.YtkghndikalnipaaGreatZX4
set_option linter.unusedSimpArgs false
set_option linter.unusedVariables false
namespace Go.Proofs.YtkghndikalnipaaGreat.En
section
open Go Go.RowKit
section
variable {P:Program} {w0 w w':World} {W:Nat->Prop} {btI bt bt':Bt} {SI S S' SV:St} {a a':Act} {D:iC} {Q:Exit->Act->World->Prop} {ops:Array Oper}
def A8(S S':St):Prop:=S'.env=S.env/\S'.bx=S.bx/\S'.nt=S.nt/\S.ng<=S'.ng
theorem uG{sz:Nat}{fl:Bool}{x:AV}{more:List (List T)}{env:Nat->AV}(h:source S sz fl x=some (more,S')):source { S with env:=env } sz fl x=some (more,{ S' with env:=env })/\A8 S S':=by
 cases x with
 |em=>simp only[source,af,au] at h ⊢;obtain⟨rfl,rfl⟩:=h;exact⟨⟨rfl,rfl⟩,rfl,rfl,rfl,az _⟩
 |ro s rows=>
  simp only[source] at h ⊢;split at h
  ·rename_i hc;simp only[af,au] at h;obtain⟨rfl,rfl⟩:=h;exact⟨by rw[if_pos hc],rfl,rfl,rfl,az _⟩
  ·cases h
 |own p s lo len=>
  simp only[source] at h ⊢;split at h
  ·rename_i hc;rw[if_pos hc];simp only[ah] at h;obtain⟨rows,h1,h⟩:=h;rw[show ({ S with env:=env }:St).rows p sz=S.rows p sz from rfl,h1];simp only[ao];split at h
   ·rename_i hd;simp only[af,au] at h;obtain⟨rfl,rfl⟩:=h;exact⟨by rw[if_pos hd],rfl,rfl,rfl,az _⟩
   ·rename_i hd;rw[if_neg hd];split at h
    ·rename_i he;simp only[af,au] at h;obtain⟨rfl,rfl⟩:=h;exact⟨by rw[if_pos he],rfl,rfl,rfl,az _⟩
    ·cases h
  ·cases h
 | _=>simp[source] at h
theorem qo{b:AV}{sz:Nat}{more:List (List T)}{v:AV}{env:Nat->AV}(h:eK S b sz more=some (v,S')):eK { S with env:=env } b sz more=some (v,{ S' with env:=env })/\A8 S S':=by
 cases b with
 |em=>simp only[eK,af,au] at h ⊢;obtain⟨rfl,rfl⟩:=h;exact⟨⟨rfl,rfl⟩,rfl,rfl,rfl,cL _⟩
 |own p s lo len=>
  simp only[eK] at h ⊢;split at h
  ·rename_i hc;rw[if_pos hc];simp only[ah] at h;obtain⟨rows,h1,h⟩:=h;rw[show ({ S with env:=env }:St).rows p sz=S.rows p sz from rfl,h1];simp only[ao];split at h
   ·cases h
   ·rename_i hd;rw[if_neg hd];simp only[af,au] at h;obtain⟨rfl,rfl⟩:=h;refine⟨?_,?_,?_,?_,?_⟩
    ·split<;>rfl
    ·split<;>rfl
    ·split<;>rfl
    ·split<;>rfl
    ·split<;>exact cL _
  ·cases h
 | _=>simp[eK] at h
def n9(P:Program)(o:Oper):Bool:=match o.op with
 | .buildSlice t _ _=>match i8 P t with |some el=>iH P el|none=>true
 | _=>true
theorem tC{o:Oper}{v:AV}{env:Nat->AV}(hn:eA o=true)(hf:im o=false)(hfl:n9 P o=true)(hop: ∀x∈o.op.operands,opd { S with env:=env } x=opd S x)(h:step D P S o=some (v,S')):
  step D P { S with env:=env } o=some (v,{ S' with env:=env })/\A8 S S':=by
 obtain⟨dst,op,type,pos,after,guard⟩:=o;cases op with
 |buildSlice t len parts=>
  have e1: ∀x∈parts.toList,opd { S with env:=env } x.2=opd S x.2:=λx hx=>hop x.2 (by simp only[Op.operands,cH];exact aG.2 ⟨x,hx,rfl⟩);simp only[step,ah] at h ⊢;obtain⟨el,hel,h⟩:=h
  have a1:parts.toList.all (λx=>decide ((opd { S with env:=env } x.2).cells.length=P.cellsOf el)&& !(opd { S with env:=env } x.2).isDead)=parts.toList.all (λx=>decide ((opd S x.2).cells.length=P.cellsOf el)&& !(opd S x.2).isDead):=by rw[bJ,ay,ay];exact forall_congr' λx=>forall_congr' λhx=>by rw[e1 x hx]
  have a2:parts.toList.any (λx=>(opd { S with env:=env } x.2).cells.any qG)=parts.toList.any (λx=>(opd S x.2).cells.any qG):=by rw[bJ,bN,bN];exact exists_congr λx=>and_congr_right λhx=>by rw[e1 x hx]
  have a3:parts.toList.map (λx=>(opd { S with env:=env } x.2).cells)=parts.toList.map (λx=>(opd S x.2).cells):=aE λx hx=>by rw[e1 x hx]
  have a4:parts.toList.map (λx=>(opd { S with env:=env } x.2).cells.map T.ofSc)=parts.toList.map (λx=>(opd S x.2).cells.map T.ofSc):=aE λx hx=>by rw[e1 x hx]
  have hfl': (gk P 9 el).all (· ==0)=true:=by simp only[n9,hel] at hfl;exact hfl
  split at h
  ·rename_i hc;split at h
   ·rename_i hr;simp only[aj,au] at h;obtain⟨rows,h1,rfl,rfl⟩:=h;refine⟨⟨el,hel,?_⟩,rfl,rfl,rfl,az _⟩
    grind
   ·rename_i hr
    first |rw[if_pos hfl'] at h|skip
    simp only[aF,af,au] at h;obtain⟨rfl,rfl⟩:=h;refine⟨⟨el,hel,?_⟩,rfl,rfl,rfl,cL _⟩
    grind
  ·cases h
 |call c=>
  obtain⟨cl,as,ts⟩:=c;cases cl with
  |value f=>simp[im] at hf
  |invoke r m=>simp[eA] at hn
  |builtin b=>
   cases b with
   |append=>
    have e1: ∀x∈as.toList,opd { S with env:=env } x=opd S x:=λx hx=>hop x (by grind [Op.operands,Call.operands])
    simp only[step] at h ⊢;split at h
    ·rename_i s x t t' has hts;have es:opd { S with env:=env } s=opd S s:=e1 s (by rw[has];simp);have ex:opd { S with env:=env } x=opd S x:=e1 x (by rw[has];simp);simp only[es,ex];split at h
     ·rename_i htt;rw[if_pos htt];simp only[ah] at h ⊢;obtain⟨el,hel,⟨more,S1⟩,h1,⟨v1,S2⟩,h2,h3⟩:=h;obtain⟨g1,c1⟩:=uG (env:=env) h1;obtain⟨g2,c2⟩:=qo (env:=env) h2;simp only at h3;split at h3
      ·split at h3
       ·rename_i hc;simp only[af,au] at h3;obtain⟨rfl,rfl⟩:=h3;refine⟨⟨el,hel,_,g1,_,g2,?_⟩,c2.1.trans c1.1,c2.2.1.trans c1.2.1,c2.2.2.1.trans c1.2.2.1,aX c1.2.2.2 c2.2.2.2⟩;simp only;rw[if_pos hc]
       ·cases h3
      ·cases h3
     ·rename_i htt;rw[if_neg htt];simp only[ah] at h ⊢;obtain⟨el,hel,z,hz,h⟩:=h;split at h
      ·rename_i h1 h2;split at h
       ·rename_i hc;simp only[af,au] at h;obtain⟨rfl,rfl⟩:=h;refine⟨⟨el,hel,z,hz,?_⟩,rfl,rfl,rfl,cL _⟩;rw[if_pos hc]
       ·cases h
      ·cases h
    ·cases h
   | _=>simp[eA] at hn
 |makeSlice t l c=>
  have e1:=hop l (by simp[Op.operands]);have e2:=hop c (by simp[Op.operands]);simp only[step,ah] at h ⊢;obtain⟨el,hel,n,hn,m,hm,z,hz,h⟩:=h;split at h
  ·rename_i hc;simp only[af,au] at h;obtain⟨rfl,rfl⟩:=h;exact⟨⟨el,hel,n,by rw[e1];exact hn,m,by rw[e2];exact hm,z,hz,by rw[if_pos hc]⟩,rfl,rfl,rfl,cL _⟩
  ·cases h
 | _=>simp[eA] at hn
def iI(o:Oper):Bool:=match o.op with | .buildSlice .. =>false| _=>eA o
theorem xh{o:Oper}{v:AV}(hn:eA o=true)(ha:iI o=false)(hfl:n9 P o=true)(h:step D P S o=some (v,S')): ∀r,r<S.ng->S'.gh r=S.gh r:=by
 obtain⟨dst,op,type,pos,after,guard⟩:=o;cases op with
 |buildSlice t len parts=>
  simp only[step,ah] at h;obtain⟨el,hel,h⟩:=h
  have hfl': (gk P 9 el).all (· ==0)=true:=by simp only[n9,hel] at hfl;exact hfl
  split at h
  ·split at h
   ·simp only[aj,au] at h
    grind
   ·first |rw[if_pos hfl'] at h|skip
    simp only[aF,af,au] at h;obtain⟨rfl,rfl⟩:=h;intro r hr;simp only[dQ];rw[if_neg (by omega)]
  ·cases h
 | _=>simp only[iI,hn] at ha;cases ha
def qF:AV->Bool| .ptrB _ _=>true| _=>false
def vU(S:St)(ops:List Oper)(o:Oper):Bool:=match o.op with
 | .store _ (.tmp t) _=>qF (S.env t)&&ops.all λo'=>o'.dst != some t
 | _=>false
def zt(S:St)(o:Oper):Bool:=match o.op with | .store _ x _=>qF (opd S x)| _=>false
def xX(b:Nat):AV->Bool| .ptrB b' _=> !Nat.beq b' b| _=>false
def zu(S:St)(ops:List Oper)(b:Nat)(o:Oper):Bool:=match o.op with
 | .store _ (.tmp t) _=>xX b (S.env t)&&ops.all λo'=>o'.dst != some t
 | _=>false
def zw(S:St)(b:Nat)(o:Oper):Bool:=match o.op with | .store _ x _=>xX b (opd S x)| _=>false
def Ca(S:St)(ops:List Oper)(B:List (List Nat))(j b:Nat):Bool:=(List.range ops.length).all λi=>match ops[i]? with
 |some oi=> !dB oi||zu S ops b oi||(B.getD j []).contains i||(B.getD i []).contains j
 |none=>true
def AN(n0:Nat)(ix:Nat->Bool)(pin:Bool):AV->Bool| .ptrB b _=>ix b| .pro _=>true| .ptrT p _ _ _=>pin&&Nat.blt p.r n0| _=>false
def uj(n0:Nat)(ix:Nat->Bool)(pin:Bool)(S:St)(o:Oper):Bool:=match o.op with | .load _ x=>AN n0 ix pin (opd S x)| _=>true
def yc(S:St)(ops:List Oper)(B:List (List Nat))(j:Nat):Bool:=(List.range ops.length).all λi=>match ops[i]? with
 |some oi=> !(iI oi||dB oi)||vU S ops oi||(B.getD j []).contains i||(B.getD i []).contains j
 |none=>true
def zB:iC:=λ_ _ _ _=>none
theorem tZ[dE]:fr P zB:=λ_ _ _ _ _ _ h=>by cases h
def B4(o:Oper):Bool:=match o.op with
 | .buildSlice _ _ parts=> !parts.isEmpty&&parts.toList.all λx=>match x.2 with | .const _=>true| _=>false
 | _=>false
def jA(o:Oper):Bool:=(eA o&& !B4 o)||dB o
theorem zg{o:Oper}(h: (iI o||dB o)=true):jA o=true:=by obtain⟨dst,op,type,pos,after,guard⟩:=o;cases op<;>simp_all [iI,B4,jA,eA,dB]
def AY(P:Program)(S:St)(o:Oper):Option AV:=match o.op with
 | .buildSlice t len parts=>(i8 P t).bind λel=>
   if len*P.cellsOf el<=2 ^ 20/\parts.toList.map (·.1)=List.range len/\0<P.cellsOf el/\(lV P el).isSome/\parts.toList.all (λx=>(opd S x.2).cells.length=P.cellsOf el&& !(opd S x.2).isDead) then
    (jq (gk P 9 el) (parts.toList.map λx=>(opd S x.2).cells)).map λrows=> .ro (P.cellsOf el) rows
   else none
 | _=>none
theorem wi{S1:St}{o:Oper}(hop: ∀x∈o.op.operands,opd S1 x=opd S x):AY P S1 o=AY P S o:=by
 obtain⟨dst,op,type,pos,after,guard⟩:=o;cases op with
 |buildSlice t len parts=>
  have e1: ∀x∈parts.toList,opd S1 x.2=opd S x.2:=λx hx=>hop x.2 (by simp only[Op.operands,cH];exact aG.2 ⟨x,hx,rfl⟩)
  have a1: ∀n,parts.toList.all (λx=>decide ((opd S1 x.2).cells.length=n)&& !(opd S1 x.2).isDead)=parts.toList.all (λx=>decide ((opd S x.2).cells.length=n)&& !(opd S x.2).isDead):=λn=>by rw[bJ,ay,ay];exact forall_congr' λx=>forall_congr' λhx=>by rw[e1 x hx]
  have a3:parts.toList.map (λx=>(opd S1 x.2).cells)=parts.toList.map (λx=>(opd S x.2).cells):=aE λx hx=>by rw[e1 x hx]
  simp only[AY,a1,a3]
 | _=>rfl
theorem wj[dE](h:Lv w0 W btI SI bt S a w){o:Oper}{v:AV}(hs:AY P S o=some v){K:Act->World->Prop}(hK: ∀bt' u w',Lv w0 W btI SI bt' S a w'->VR w' bt' v u->K (a.put o.dst u) w'):o.wp P a w K Q:=by
 obtain⟨dst,op,type,pos,after,guard⟩:=o;cases op with
 |buildSlice t len parts=>
  simp only[AY,ah] at hs;obtain⟨el,hel,hs⟩:=hs;split at hs
  ·rename_i hc;obtain⟨h1,h2,h3,h4,h5⟩:=hc;obtain⟨rows,hr,rfl⟩:=aj.1 hs;obtain⟨u,w',bt',g1,g2,g3⟩:=kF h.inv h.er hel h1 h2 h3 h4 h5 hr;unfold Oper.wp;have hr: (execOp a.eval ⟨dst,.buildSlice t len parts,type,pos,after,guard⟩).run P w= .ok (.value u) w':=by simp[execOp,g1]
   rw[hr,Oper.upon_value];exact hK bt' u w' (h.left g2) g3
  ·cases hs
 | _=>cases hs
theorem xg{ops:List Oper}{o:Oper}(h:vU S ops o=true):iI o=false:=by
 unfold vU at h;split at h
 ·rename_i hop;unfold iI eA;rw[hop]
 ·cases h
def ug(o:Oper):Bool:=match o.op with | .load _ _=>true| _=>false
def ya(all:Array Oper)(B:List (List Nat))(i j:Nat)(oi oj:Oper):Bool:=
 (i==j||oi.dst.isNone||oi.dst != oj.dst)&&(!(jA oi&&jA oj&&decide (i<j))||(B.getD j []).contains i)&&(match oi.dst with |some d=> !(oj.looksAt all).contains d||(B.getD j []).contains i|none=>true)
def A5(all:Array Oper):Bool:=
 let ops:=all.toList
 let B:=ef ops
 uW ops B&&(List.range ops.length).all λj=>match ops[j]? with
  |none=>false
  |some oj=> !dY oj&&oj.guard.isNone&&(oj.after.toList.all λe=> !Region.binds .any e||decide (e.on<j))&&
   (List.range ops.length).all λi=>match ops[i]? with |none=>false|some oi=>ya all B i j oi oj
def DY(all:Array Oper):Bool:=
 let ops:=all.toList
 let B:=ef ops
 (List.range ops.length).all λj=>(List.range ops.length).all λi=>match ops[i]?,ops[j]? with
   |some oi,some oj=> !(ug oi&&dB oj)||(B.getD j []).contains i||(B.getD i []).contains j
   | _,_=>true
def rH(all:Array Oper):Bool:=(all.toList.any λo=>match o.op with | .indexAddr .. =>true| _=>false)&&(all.toList.any λo=>match o.op with | .call { callee:=.builtin .append, .. } =>true| _=>false)&&(all.toList.all λo=> !im o)&&DY all&&A5 all
structure Bc (ops:Array Oper) (B:List (List Nat)):Prop where
 lt: ∀ (j i:Nat),j<ops.size->i∈B.getD j [] ->i<j
 edge: ∀ (j i:Nat) (o:Oper),ops[j]? =some o->i∈B.getD j [] -> ∃e∈o.after,Region.binds .any e=true/\(e.on=i\/i∈B.getD e.on [])
 on: ∀ (j:Nat) (o:Oper) (e:Edge),ops[j]? =some o->e∈o.after->Region.binds .any e=true->e.on<j
 pl: ∀ (j:Nat) (o:Oper),ops[j]? =some o->o.guard=none
 dst: ∀ (i j:Nat) (oi oj:Oper) (d:Tmp),ops[i]? =some oi->ops[j]? =some oj->oi.dst=some d->oj.dst=some d->i=j
 wr: ∀ (i j:Nat) (oi oj:Oper),ops[i]? =some oi->ops[j]? =some oj->jA oi=true->jA oj=true->i<j->i∈B.getD j []
 look: ∀ (i j:Nat) (oi oj:Oper) (d:Tmp),ops[i]? =some oi->ops[j]? =some oj->oi.dst=some d->d∈oj.looksAt ops->i∈B.getD j []
theorem sP(h:A5 ops=true):Bc ops (ef ops.toList):=by
 unfold A5 at h;simp only[ak] at h;obtain⟨h1,h2⟩:=h
 have lst: ∀ (j:Nat) (o:Oper),ops[j]? =some o->j<ops.toList.length/\ops.toList[j]? =some o:=by intro j o ho;refine⟨?_,by simpa using ho⟩;have:=(aD.1 ho).1;simpa using this
 have h3: ∀ (j:Nat) (oj:Oper),ops[j]? =some oj->oj.guard=none/\(oj.after.toList.all λe=> !Region.binds .any e||decide (e.on<j))=true/\
   ∀ (i:Nat) (oi:Oper),ops[i]? =some oi->ya ops (ef ops.toList) i j oi oj=true:=by
  intro j oj hj;obtain⟨l1,l2⟩:=lst j oj hj;have:=ay.1 h2 j (bw.2 l1);simp only[l2,ak,cD] at this;obtain⟨⟨⟨_,q2⟩,q3⟩,q5⟩:=this;refine⟨q2,q3,λi oi hi=> ?_⟩;obtain⟨m1,m2⟩:=lst i oi hi;have:=ay.1 q5 i (bw.2 m1);simpa only[m2] using this
 have h4: ∀ (i j:Nat) (oi oj:Oper),ops[i]? =some oi->ops[j]? =some oj->(i=j\/oi.dst=none\/oi.dst≠oj.dst)/\(jA oi=true->jA oj=true->i<j->i∈(ef ops.toList).getD j [])/\ ∀d,oi.dst=some d->d∈oj.looksAt ops->i∈(ef ops.toList).getD j [] :=by
  intro i j oi oj hi hj;have:=(h3 j oj hj).2.2 i oi hi;unfold ya at this;simp only[ak] at this;obtain⟨⟨p1,p2⟩,p4⟩:=this;refine⟨?_,λa b c=> ?_,λd hd hl=> ?_⟩
  ·grind
  ·simpa [a,b,c] using p2
  ·rw[hd] at p4;simpa [hl] using p4
 have hb: ∀ (j i:Nat),j<ops.size->i∈(ef ops.toList).getD j [] ->i<j/\ ∃o,ops[j]? =some o/\ ∃e∈o.after,Region.binds .any e=true/\(e.on=i\/i∈(ef ops.toList).getD e.on []):=by
  intro j i hj hi;unfold uW at h1;have h1:=ay.1 h1 j (bw.2 (by simpa using hj));have h1:=ay.1 h1 i hi;simp only[ak,decide_eq_true_eq] at h1;obtain⟨k1,k2⟩:=h1;have ho:ops.toList[j]? =some ops[j] :=by simp[hj]
  rw[ho] at k2;simp only at k2;obtain⟨e,he,k3⟩:=bN.1 k2;simp only[ak,bq,beq_iff_eq,bg] at k3;exact⟨k1,_,aR hj,e,by simpa using he,k3.1,k3.2⟩
 refine⟨λj i hj hi=>(hb j i hj hi).1,λj i o ho hi=> ?_,λj o e ho he hbd=> ?_,λj o ho=>(h3 j o ho).1,λi j oi oj d hi hj hdi hdj=> ?_,λi j oi oj hi hj=>(h4 i j oi oj hi hj).2.1,λi j oi oj d hi hj=>(h4 i j oi oj hi hj).2.2 d⟩
 all_goals grind
theorem mw{d:Option Tmp}{v:AV}(h:S.put d v=some S'):S'= { S with env:=λt=>if d=some t then v else S.env t } /\ ∀env:Nat->AV,({ S with env:=env }:St).put d v=some { S' with env:=λt=>if d=some t then v else env t } :=by
 unfold St.put at h ⊢;split at h
 ·rename_i t;split at h
  ·rename_i hlt;simp only[af] at h;subst h
   have e: ∀g:Nat->AV,dQ g t v=λu=>if some t=some u then v else g u:=by
    intro g
    funext u
    unfold dQ;by_cases hu:u=t
    ·subst hu;simp
    ·grind
   grind
  ·cases h
 simp_all
structure fq [dE] (P:Program) (n0:Nat) (S:St) (o:Oper) (S1:St):Prop where
 env: ∀t,o.dst≠some t->S1.env t=S.env t
 bx: ∀b,(dB o=false\/zw S b o=true)->S1.bx b=S.bx b
 nt:S1.nt=S.nt
 ng:S.ng<=S1.ng
 gh:iI o=false->(dB o=false\/zt S o=true)-> ∀r,r<n0->S1.gh r=S.gh r
 run: ∀ (env:Nat->AV),(∀x∈o.op.operands,opd { S with env:=env } x=opd S x)-> ∀ ⦃w0:World⦄ ⦃W:Nat->Prop⦄ ⦃btI:Bt⦄ ⦃SI:St⦄ ⦃bt:Bt⦄ ⦃a:Act⦄ ⦃w:World⦄ ⦃K:Act->World->Prop⦄ ⦃Q:Exit->Act->World->Prop⦄,Lv w0 W btI SI bt { S with env:=env } a w->
  (∀bt' a' w',Lv w0 W btI SI bt' { S1 with env:=λt=>if o.dst=some t then S1.env t else env t } a' w'->K a' w')->o.wp P a w K Q
theorem fq.new[dE](hD:fr P D){o:Oper}(hok:fY P o=true)(hn:eA o=true){v:AV}{adds:List T}{cons:List Nat}(hs:ed D P S o=some (v,adds,cons)){S1:St}(hp: (S.make ⟨S.ng,adds,cons⟩).put o.dst (shift S.ng v)=some S1){n0:Nat}(h0:n0<=S.ng)(hc:iI o=false-> ∀r∈cons,n0<=r):fq P n0 S o S1:=by
 obtain⟨e1,e2⟩:=mw hp;refine⟨λt ht=> ?_,λ_ _=>by rw[e1];rfl,by rw[e1];rfl,by rw[e1];exact cK _ _,λha _ r hr=> ?_,λenv hlook w0 W btI SI bt a w K Q hl hK=> ?_⟩
 ·rw[e1];exact if_neg ht
 ·rw[e1];show (if S.ng<=r/\r<S.ng+adds.length then adds[r-S.ng]? else if cons.contains r then none else S.gh r)=S.gh r
  grind
 ·have hs':ed D P { S with env:=env } o=some (v,adds,cons):=by rw[m9 hlook,hs]
  refine na hD hl.inv hl.er hl.fzng hok hs' λbt1 u w' g1 _ hv=>hK _ _ _ ((hl.left g1).put hv ?_);have:=e2 env;rw[show S1.env=λt=>if o.dst=some t then shift S.ng v else S.env t by rw[e1];rfl];refine Eq.trans this ?_
  simp_all
theorem fq.of_step[dE](hD:fr P D){o:Oper}(hok:fY P o=true){v:AV}{Y S1:St}(h: ∀env:Nat->AV,(∀x∈o.op.operands,opd { S with env:=env } x=opd S x)->step D P { S with env:=env } o=some (v,{ Y with env:=env }))(hY:step D P S o=some (v,Y))(hp:Y.put o.dst v=some S1){n0:Nat}
  (hbx: ∀b,(dB o=false\/zw S b o=true)->Y.bx b=S.bx b) (hnt:Y.nt=S.nt) (hng:S.ng<=Y.ng) (he:Y.env=S.env) (hgh:iI o=false->(dB o=false\/zt S o=true)-> ∀r,r<n0->Y.gh r=S.gh r):fq P n0 S o S1:=by
 obtain⟨e1,e2⟩:=mw hp;refine⟨λt ht=>by simp_all,λb hb=>by rw[e1];exact hbx b hb,by rw[e1];exact hnt,by rw[e1];exact hng,λha hb r hr=>by rw[e1];exact hgh ha hb r hr,λenv hlook w0 W btI SI bt a w K Q hl hK=> ?_⟩
 have k:one D P { S with env:=env } o=some { S1 with env:=λt=>if o.dst=some t then S1.env t else env t } :=by
  unfold one;rw[h env hlook];simp only[ao];rw[e2 env,e1];simp only[af]
  congr 1
  funext t
  by_cases ht:o.dst=some t<;>simp[ht]
 grind [jR]
theorem fq.flat[dE](hD:fr P D){o:Oper}(hok:fY P o=true)(hn:eA o=true)(hf:im o=false)(hfl:n9 P o=true){v:AV}{Y S1:St}(hs:step D P S o=some (v,Y))(hp:Y.put o.dst v=some S1){n0:Nat}(h0:n0<=S.ng):fq P n0 S o S1:=by obtain⟨_,c1,c2,c3,c4⟩:=tC (env:=S.env) hn hf hfl (λ_ _=>rfl) hs;exact .of_step hD hok (λenv hl=>(tC hn hf hfl hl hs).1) hs hp (λb _=>congrFun c2 b) c3 c4 c1 λha _ r hr=>xh hn ha hfl hs r (aM hr h0)
theorem yH{t:TypeId}{x v:AV}(hb:qF x=true)(h:store P S t x v=some S'):S'.gh=S.gh:=by
 cases x with
 |ptrB b j=>
  unfold store at h;simp only at h;split at h
  ·cases h
  ·obtain⟨cs,h1,h2⟩:=ah.1 h;split at h2
   ·cases h2;rfl
   ·cases h2
 | _=>cases hb
theorem yG{t:TypeId}{x v:AV}{b:Nat}(hb:xX b x=true)(h:store P S t x v=some S'):S'.bx b=S.bx b:=by
 cases x with
 |ptrB b' j=>
  unfold store at h;simp only at h;split at h
  ·cases h
  ·obtain⟨cs,h1,h2⟩:=ah.1 h;split at h2
   ·cases h2;unfold xX at hb;simp only[dQ];rw[if_neg];intro e;subst e;simp at hb
   ·cases h2
 | _=>cases hb
theorem wP{t:TypeId}{x v:AV}(hs:lS (iH P) t x=true)(h:store P S t x v=some S'): (∀env:Nat->AV,store P { S with env:=env } t x v=some { S' with env:=env })/\S'.env=S.env/\S'.nt=S.nt/\S'.ng=S.ng:=by
 cases x with
 |ptrB b j=>
  unfold store at h ⊢;simp only at h ⊢;split at h
  ·cases h
  ·rename_i hc;obtain⟨cs,h1,h2⟩:=ah.1 h
   grind
 |ptrT p sz i j=>
  have hfl: (gk P 9 t).all (· ==0)=true:=hs;unfold store at h ⊢;simp only at h ⊢;split at h
  ·cases h
  ·rename_i hc;obtain⟨S2,h1,h2⟩:=ah.1 h
   try rw[hfl,if_pos rfl] at h2
   simp only[af] at h2;subst h2;unfold fU at h1;split at h1
   ·rename_i rows hr;split at h1
    ·rename_i hle;simp only[af] at h1;subst h1;refine⟨λenv=> ?_,rfl,rfl,rfl⟩;rw[if_neg hc];unfold fU;rw[show ({ S with env:=env }:St).rows p sz=some rows from hr];simp only;rw[if_pos hle];simp only[ao];rw[hfl,if_pos rfl];rfl
    ·cases h1
   ·cases h1
 | _=>cases hs
theorem fq.store[dE](hD:fr P D){o:Oper}(hok:fY P o=true)(hst:dB o=true)(hsi: ∀t x v,o.op= .store t x v->lS (iH P) t (opd S x)=true){v:AV}{Y S1:St}(hs:step D P S o=some (v,Y))(hp:Y.put o.dst v=some S1){n0:Nat}:fq P n0 S o S1:=by
 obtain⟨dst,op,ty,pos,aft,gd⟩:=o;cases op with
 |store t x y=>
  have hsim:=hsi t x y rfl;unfold step at hs;simp only[aj,au] at hs;obtain⟨S2,h1,rfl,rfl⟩:=hs;obtain⟨g1,g2,g3,g4⟩:=wP hsim h1;refine .of_step hD hok (λenv hl=> ?_) (by unfold step;simp only[h1,aF]) hp (λb h=>yG (h.resolve_left (by rw[hst];decide)) h1) g3 (by rw[g4];exact az _) g2 λ_ h r _=>by rw[yH (h.resolve_left (by rw[hst];decide)) h1]
  simp_all [step,Op.operands]
 | _=>cases hst
def wW[dE](P:Program)(S:St)(o:Oper)(S1:St):Prop:=∀ ⦃w0:World⦄ ⦃W:Nat->Prop⦄ ⦃btI:Bt⦄ ⦃SI:St⦄ ⦃bt:Bt⦄ ⦃a:Act⦄ ⦃w:World⦄ ⦃K:Act->World->Prop⦄ ⦃Q:Exit->Act->World->Prop⦄,Lv w0 W btI SI bt S a w->(∀bt' a' w',Lv w0 W btI SI bt' S1 a' w'->K a' w')->o.wp P a w K Q
theorem wW.one[dE](hD:fr P D){o:Oper}(hok:fY P o=true){S1:St}(h:one D P S o=some S1):wW P S o S1:=λ_ _ _ _ _ _ _ _ _ hl hK=>jR hD hl hok h λ_ _ _ h'=>hK _ _ _ h'
theorem fq.op[dE]{n0:Nat}{o:Oper}{S1:St}(h:fq P n0 S o S1):wW P S o S1:=λ_ _ _ _ _ _ _ _ _ hl hK=>h.run S.env (λ_ _=>rfl) hl λbt' a' w' h'=>hK bt' a' w' (by
 have e: (λt=>if o.dst=some t then S1.env t else S.env t)=S1.env:=by
  funext t
  by_cases ht:o.dst=some t
  ·rw[if_pos ht]
  ·rw[if_neg ht,h.env t ht]
 rwa [e] at h')
def Df(P:Program)(n0:Nat)(ix:Nat->Bool)(pin:Bool)(S:St)(o:Oper)(v:AV):Prop:=(eA o=false/\fY P o=true/\dD zB P S o=some v/\uj n0 ix pin S o=true)\/AY P S o=some v
def wU(P:Program)(n0:Nat)(ix:Nat->Bool)(pin:Bool)(S:St)(o:Oper)(S1:St):Prop:=jA o=false/\ ∃v,Df P n0 ix pin S o v/\S.put o.dst v=some S1
def pH[dE](P:Program)(n0:Nat)(ops:List Oper)(B:List (List Nat))(T:Nat->St)(i:Nat)(o:Oper):Prop:=
 (jA o=true/\fq P n0 (T i) o (T (i+1)))\/wU P n0 (Ca (T i) ops B i) (yc (T i) ops B i) (T i) o (T (i+1))
set_option maxHeartbeats 4000000 in
theorem sQ[dE](hm:P.follows .mixedOrders=true)(ok:Bc ops (ef ops.toList)){id:Nat}(h:Lv w0 W btI SI bt S a w)(T:Nat->St)(t1:T 0=S)(t2:T ops.size=S'){m:Nat}
  (hmn:m=ops.size\/m+1=ops.size/\ ∃o,ops[m]? =some o/\dB o=true/\wW P (T m) o (T (m+1))/\ ∀j,j<m->j∈(ef ops.toList).getD m [])
  (hs: ∀i o,i<m->ops[i]? =some o->pH P S.ng ops.toList (ef ops.toList) T i o)
  (hK: ∀bt' a' w',Lv w0 W btI SI bt' S' a' w'->Q .normal a' w'): (Code.region id ops true).wp P Q a w:=by
 have hmle:m<=ops.size:=by rcases hmn with h| ⟨h,_⟩<;>omega
 have tl: ∀ {i:Nat} {o:Oper},ops.toList[i]? =some o↔ops[i]? =some o:=by intro i o;simp
 have at': ∀i (_:i<m),ops[i]? =some (ops[i]'(by omega)):=λi _=>aR _
 have light: ∀ {i o},i<m->ops[i]? =some o->jA o=false->wU P S.ng (Ca (T i) ops.toList (ef ops.toList) i) (yc (T i) ops.toList (ef ops.toList) i) (T i) o (T (i+1)):=by
  intro i o hi ho hh;rcases hs i o hi ho with ⟨h1,_⟩|h1
  ·rw[hh] at h1;cases h1
  ·exact h1
 have heavy: ∀ {i o},i<m->ops[i]? =some o->jA o=true->fq P S.ng (T i) o (T (i+1)):=by
  intro i o hi ho hh;rcases hs i o hi ho with ⟨_,h1⟩|h1
  ·exact h1
  ·rw[h1.1] at hh;cases hh
 have lightE: ∀ {i o},i<m->ops[i]? =some o->jA o=false-> ∃env,T (i+1)= { T i with env:=env } :=by intro i o hi ho hh;obtain⟨_,v,_,h3⟩:=light hi ho hh;exact⟨_,(mw h3).1⟩
 have ngT: ∀j,j<=m->S.ng<=(T j).ng/\(T j).nt=S.nt:=by
  intro j
  induction j with
  |zero=>grind
  |succ j ih=>
   intro hj;obtain⟨i1,i2⟩:=ih (by omega);cases hh:jA (ops[j]'(by omega)) with
   |true=>have:=heavy (by omega) (at' j (by omega)) hh;exact⟨aX i1 this.ng,this.nt.trans i2⟩
   |false=>grind
 have envStep: ∀ {j o t},j<m->ops[j]? =some o->o.dst≠some t->(T (j+1)).env t=(T j).env t:=by
  intro j o t hj ho hd;cases hh:jA o with
  |true=>exact (heavy hj ho hh).env t hd
  |false=>obtain⟨_,v,_,h3⟩:=light hj ho hh;rw[(mw h3).1];exact if_neg hd
 have envOld: ∀j t,j<=m->(∀i o,i<j->ops[i]? =some o->o.dst≠some t)->(T j).env t=S.env t:=by
  intro j t
  induction j with
  |zero=>intro _ _;rw[t1]
  |succ j ih=>grind
 have envNew: ∀j i o t,i<j->j<=m->ops[i]? =some o->o.dst=some t->(T j).env t=(T (i+1)).env t:=by
  intro j i o t hij hj ho hd
  induction j with
  |zero=>omega
  |succ j ih=>
   by_cases he:i=j
   ·rw[he]
   ·rw[envStep (by omega) (at' j (by omega)) (λhd'=>he (ok.dst i j o _ t ho (at' j (by omega)) hd hd'))];exact ih (by omega) (by omega)
 let SV:=T m
 let AL (L:Array Bool) (a:Act) (w:World):Prop:=((m<ops.size->L.getD m false=false)/\ ∃bt k,k<=m/\(∀i o,i<m->ops[i]? =some o->jA o=true->(L.getD i false=true↔i<k))/\Lv w0 W btI SI bt { T k with env:=eB ops S SV L } a w)\/
  (m<ops.size/\L.getD m false=true/\ ∃bt,Lv w0 W btI SI bt S' a w)
 have span: ∀ {α:Type} (f:St->α) (C:Oper->Bool),(∀j o,j<m->ops[j]? =some o->C o=false->f (T (j+1))=f (T j))-> ∀j k,j<=k->k<=m->(∀i o,j<=i->i<k->ops[i]? =some o->C o=false)->f (T k)=f (T j):=by
  intro α f C hf j k hjk
  induction k with
  |zero=>intro _ _;rw[show j=0 by omega]
  |succ k ih=>grind
 have memF: ∀ (env:Nat->AV) j o,j<m->ops[j]? =some o->jA o=false->({ T (j+1) with env:=env }:St)= { T j with env:=env } :=by intro env j o hj ho hh;obtain⟨e,he⟩:=lightE hj ho hh;rw[he]
 have allDone: ∀L k,(∀i,i<m->L.getD i false=true)->k<=m->(∀i o,i<m->ops[i]? =some o->jA o=true->(L.getD i false=true↔i<k))->({ T k with env:=eB ops S SV L }:St)=T m:=by
  intro L k hL hk hph
  have henv:eB ops S SV L=SV.env:=by
   funext t
   unfold eB;split
   ·rfl
   ·rename_i hnd;refine (envOld m t (az _) (λj oj hj hoj hd=>hnd (fi.2 ⟨j,oj,hoj,hL j hj,hd⟩))).symm
  rw[henv]
  exact (span (λX:St=>({ X with env:=SV.env }:St)) jA (memF _) k m hk (az _) (λi o h1 h2 ho=>by grind)).symm
 have fin: ∀L a w,(∀i,i<ops.size->L.getD i false=true)->AL L a w->Q .normal a w:=by
  intro L a w hL hsim;rcases hsim with ⟨h1,bt,k,hk,hph,hLv⟩| ⟨_,_,bt,h2⟩
  ·grind
  ·exact hK _ _ _ h2
 have main: ∀ (fuel:Nat) (L:Array Bool) (rem:List Nat) (a:Act) (w:World),rem.length=fuel->rem.Nodup->(∀i,i∈rem↔i<ops.size/\L.getD i false=false)->L.size=ops.size->
   (∀j,j<ops.size->L.getD j false=true-> ∀i∈(ef ops.toList).getD j [],L.getD i false=true)->AL L a w->wpAny P .any ops Q fuel L a w:=by
  have flip: ∀ (L:Array Bool) (i:Nat),L.size=ops.size->i<ops.size->(L.getD i true=L.getD i false):=by intro L i h1 h2;simp only[aN];rw[aR (by omega)];rfl
  have nor: ∀ (L:Array Bool),L.size=ops.size->Region.ready .any ops L= [] -> ∀i,i<ops.size->L.getD i false=true:=by
   intro L hsz hr i
   induction i using Nat.strongRecOn with
   | _ i ih=>
     intro hi;cases hx:L.getD i false with
     |true=>rfl
     |false=>
      have hm:i∈Region.ready .any ops L:=by rw[mem_ready];refine⟨by rw[flip L i hsz hi];exact hx,ops[i],aR hi,λe he hb=> ?_⟩;have:=ok.on i _ e (aR hi) he hb;exact ih _ this (by omega)
      rw[hr] at hm;cases hm
  intro fuel
  induction fuel with
  |zero=>
   intro L rem a w hl _ hrem hsz hcl hsim
   have hall: ∀i,i<ops.size->L.getD i false=true:=by
    intro i hi;cases hx:L.getD i false with
    |true=>rfl
    |false=>grind
   refine⟨?_,fin L a w hall hsim⟩;cases hr:Region.ready .any ops L with
   |nil=>rfl
   |cons i rs=>grind [Region.ready,List.mem_cons_self]
  |succ fuel ih=>
   intro L rem a w hl hnd hrem hsz hcl hsim;refine⟨λhr=>fin L a w (nor L hsz hr) hsim,λi hi=> ?_⟩;obtain⟨hun,o,ho,hpre⟩:=mem_ready.1 hi;have hin:=(aD.1 ho).1;rw[flip L i hsz hin] at hun
   have hB: ∀j∈(ef ops.toList).getD i [],L.getD j false=true:=by
    intro j hj;obtain⟨e,he,hb,hor⟩:=ok.edge i j o ho hj;have hl:=hpre e he hb;rcases hor with rfl|hor
    ·exact hl
    ·grind
   have hiL:i<L.size:=by omega
   have hset: ∀j,(L.setIfInBounds i true).getD j false=if j=i then true else L.getD j false:=λj=>jK hiL
   have next: ∀a' w',AL (L.setIfInBounds i true) a' w'->wpAny P .any ops Q fuel (L.setIfInBounds i true) a' w':=by
    intro a' w' hs';refine ih (L.setIfInBounds i true) (rem.erase i) a' w' ?_ (hnd.erase i) (λj=> ?_) (by simpa using hsz) (λj hj hjt k hk=> ?_) hs'
    ·grind
    ·rw[hnd.mem_erase_iff,hrem j,hset j]
     grind
    ·rw[hset] at hjt ⊢
     grind
   unfold wpOp;rw[ho];simp only;have hw:Region.wanted o (yielded ops a.tmps)=true:=by simp[Region.wanted,ok.pl i o ho]
   rw[if_pos hw]
   have notDone: ∀j oj,ops[j]? =some oj->i∈(ef ops.toList).getD j [] ->L.getD j false=false:=by
    intro j oj hj hij;cases hx:L.getD j false with
    |false=>rfl
    |true=>grind
   rcases hsim with ⟨hlast,bt,k,hk,hph,hLv⟩| ⟨hlt,hlast,_⟩
   case inr=>grind
   by_cases him:i<m
   case neg=>
    rcases hmn with he| ⟨he,oL,hoL,hsL,hop,hall⟩
    ·omega
    ·have hie:i=m:=by omega
     subst hie;rw[ho] at hoL;cases hoL;rw[allDone L k (λj hj=>hB j (hall j hj)) hk hph] at hLv;refine .inl (hop hLv λbt' a' w' h'=>next a' w' (.inr ⟨by omega,?_,bt',?_⟩))
     all_goals grind
   have hlook: ∀x∈o.op.operands,opd { T k with env:=eB ops S SV L } x=opd (T i) x:=by
    intro x hx;cases x with
    |tmp t=>
     show eB ops S SV L t=(T i).env t;have hlk:t∈o.looksAt ops:=bR _ (cu.2 ⟨.tmp t,by simpa using hx,rfl⟩);by_cases hex: ∃ (j:Nat) (oj:Oper),ops[j]? =some oj/\oj.dst=some t
     ·obtain⟨j,oj,hj,hd⟩:=hex;have hjB:=ok.look j i oj o t hj ho hd hlk;have hji:=ok.lt i j hin hjB;unfold eB;rw[if_pos (fi.2 ⟨j,oj,hj,hB j hjB,hd⟩)]
      grind
     ·unfold eB
      rw[if_neg (λhdn=>by obtain⟨j,oj,h1,_,h3⟩:=fi.1 hdn;exact hex ⟨j,oj,h1,h3⟩)]
      grind
    | _=>rfl
   have hlast':m<ops.size->(L.setIfInBounds i true).getD m false=false:=λhlt=>by rw[hset,if_neg (by omega)];exact hlast hlt
   have there: ∀ {α:Type} (f:St->α) (C:Oper->Bool),(∀j o,j<m->ops[j]? =some o->C o=false->f (T (j+1))=f (T j))->(∀o,C o=true->jA o=true)->(∀j oj,j<m->ops[j]? =some oj->C oj=true->j≠i->j∈(ef ops.toList).getD i [] \/i∈(ef ops.toList).getD j [])->(k<=i\/C o=true\/jA o=false)->f (T k)=f (T i):=by
    intro α f C hf hC hcmp hself;rcases Nat.le_total k i with hki|hki
    ·refine (span f C hf k i hki (by omega) (λj oj h1 h2 hoj=> ?_)).symm;cases hx:C oj with
     |false=>rfl
     |true=>
      exfalso;rcases hcmp j oj (by omega) hoj hx (by omega) with h|h
      ·grind
      ·have:=ok.lt j i (aD.1 hoj).1 h;omega
    ·refine span f C hf i k hki hk (λj oj h1 h2 hoj=> ?_);cases hx:C oj with
     |false=>rfl
     |true=>
      exfalso;have hd:=(hph j oj (by omega) hoj (hC oj hx)).2 h2;by_cases hji:j=i
      ·rw[hji,hun] at hd;cases hd
      ·rcases hcmp j oj (by omega) hoj hx hji with h|h
       ·have:=ok.lt i j hin h;omega
       ·rw[notDone j oj hoj h] at hd;cases hd
   have henvS: ∀v,(∀d,o.dst=some d->v=(T (i+1)).env d)->(λt=>if o.dst=some t then v else eB ops S SV L t)=eB ops S SV (L.setIfInBounds i true):=by
    intro v hv
    funext t
    rw[ij hiL ho];by_cases hd:o.dst=some t
    ·grind
    ·rw[if_neg hd,if_neg hd]
   cases hh:jA o with
   |true=>
    have hst:=heavy him ho hh
    have hX: ∀env:Nat->AV,({ T k with env:=env }:St)= { T i with env:=env } :=λenv=>
     there (λX:St=>({ X with env:=env }:St)) jA (memF env) (λ_ h=>h) (λj oj hj hoj hx hji=>by
      rcases Nat.lt_or_gt_of_ne hji with hlt|hlt
      ·exact .inl (ok.wr j i oj o hoj ho hx hh hlt)
      ·exact .inr (ok.wr i j o oj ho hoj hh hx hlt)) (.inr (.inl hh))
    rw[hX] at hLv hlook;refine .inl (hst.run _ hlook hLv λbt' a' w' h'=>next a' w' (.inl ⟨hlast',bt',i+1,by omega,λj oj hj hoj hx=> ?_,?_⟩))
    ·rw[hset];by_cases hji:j=i
     ·simp[hji]
     ·rw[if_neg hji];constructor
      ·grind
      ·intro hlt;exact hB j (ok.wr j i oj o hoj ho hx hh (by omega))
    ·have e: (λt=>if o.dst=some t then (T (i+1)).env t else eB ops S SV L t)=eB ops S SV (L.setIfInBounds i true):=by
      funext t
      rw[ij hiL ho];by_cases hd:o.dst=some t
      ·grind
      ·rw[if_neg hd,if_neg hd]
     rw[<-e];exact h'
   |false=>
    obtain⟨_,v,hcalc,hput⟩:=light him ho hh
    have run: ∀ (K:Act->World->Prop),(∀bt' u w',Lv w0 W btI SI bt' { T k with env:=eB ops S SV L } a w'->VR w' bt' v u->K (a.put o.dst u) w')->o.wp P a w K Q:=by
     rcases hcalc with ⟨hnw,hok,k1,k2⟩|hfr
     ·have stC: ∀o,dB o=true->jA o=true:=λo h=>by simp[jA,h]
      have apC: ∀o,(iI o||dB o)=true->jA o=true:=λo h=>zg h
      have k3:dD zB P { T k with env:=eB ops S SV L } o=some v:=by
       rw[<-k1];refine lx hok hnw hlook (λt x hx=> ?_);unfold uj at k2;rw[hx] at k2;simp only at k2;have hld:ug o=true:=by unfold ug;rw[hx]
       generalize opd (T i) x=y at k2;cases y with
       |ptrB b j=>
        have hbn: ∀j oj,j<m->ops[j]? =some oj->zu (T i) ops.toList b oj=true->zw (T j) b oj=true:=by
         intro j oj hj hoj hb;unfold zu at hb;split at hb
         ·rename_i t0 t x0 hop;simp only[ak,ay,bne_iff_ne] at hb
          have hno: ∀ (q:Nat) (oq:Oper),ops[q]? =some oq->oq.dst≠some t:=λq oq hq=>hb.2 oq (by have:=Array.mem_of_getElem? hq;simpa using this)
          unfold zw;rw[hop];show xX b ((T j).env t)=true;rw[envOld j t (by omega) (λq oq _ hq=>hno q oq hq),<-envOld i t (by omega) (λq oq _ hq=>hno q oq hq)];exact hb.1
         ·cases hb
        have b1: (T k).bx b=(T i).bx b:=there (λX:St=>X.bx b) (λo=>dB o&& !zu (T i) ops.toList b o) (λj oj hj hoj hst=>by
         simp only[Bool.and_eq_false_iff,Bool.not_eq_false'] at hst;cases hh':jA oj with
         |true=>exact (heavy hj hoj hh').bx b (hst.imp_right λh=>hbn j oj hj hoj h)
         |false=>
          obtain⟨e,he⟩:=lightE hj hoj hh';rw[he]) (λo h=>by
          simp only[ak] at h;exact stC o h.1) (λj oj _ hoj hx _=>by
          have hp:Ca (T i) ops.toList (ef ops.toList) i b=true:=k2;unfold Ca at hp;have:=ay.1 hp j (bw.2 (by grind));rw[show ops.toList[j]? =some oj by simpa using hoj] at this;simp only[bq,bE,bg] at this;rcases this with ((h1|h1)|h1)|h1
          ·rw[h1] at hx;simp at hx
          ·rw[h1] at hx;simp at hx
          ·exact .inl h1
          ·exact .inr h1) (.inr (.inr hh))
        simp only[dR,b1]
       |pro cs=>rfl
       |ptrT p sz i' j'=>
        simp only[AN,ak] at k2;have hr:p.r<S.ng:=by simpa using k2.2
        have hbx: ∀j oj,j<m->ops[j]? =some oj->vU (T i) ops.toList oj=true->zt (T j) oj=true:=by
         intro j oj hj hoj hb;unfold vU at hb;split at hb
         ·rename_i t0 t x0 hop;simp only[ak,ay,bne_iff_ne] at hb
          have hno: ∀ (q:Nat) (oq:Oper),ops[q]? =some oq->oq.dst≠some t:=λq oq hq=>hb.2 oq (by have:=Array.mem_of_getElem? hq;simpa using this)
          unfold zt;rw[hop];show qF ((T j).env t)=true;rw[envOld j t (by omega) (λq oq _ hq=>hno q oq hq),<-envOld i t (by omega) (λq oq _ hq=>hno q oq hq)];exact hb.1
         ·cases hb
        have g: (T k).gh p.r=(T i).gh p.r:=there (λX:St=>X.gh p.r) (λo=>iI o||(dB o&& !vU (T i) ops.toList o)) (λj oj hj hoj hst=>by
         simp only[cP,Bool.and_eq_false_iff,Bool.not_eq_false'] at hst;cases hh':jA oj with
         |true=>exact (heavy hj hoj hh').gh hst.1 (hst.2.imp_right λh=>hbx j oj hj hoj h) _ hr
         |false=>grind) (λo h=>apC o (by
          simp only[bq,ak] at h ⊢;exact h.imp_right λh=>h.1)) (λj oj _ hoj hx _=>by
          have hp:=k2.1;unfold yc at hp;have:=ay.1 hp j (bw.2 (by grind));rw[show ops.toList[j]? =some oj by simpa using hoj] at this;simp only[bq,bE,bg] at this;rcases this with ((h1|h1)|h1)|h1
          ·simp only[cP] at h1;rw[h1.1,h1.2] at hx;simp at hx
          ·have h2:=xg h1;rw[h1,h2] at hx;simp at hx
          ·exact .inl h1
          ·exact .inr h1) (.inr (.inr hh))
        simp only[dR,St.rows,St.look,g]
       | _=>cases k2
      exactλK hK=>wz tZ hLv hok k3 hK
     ·exactλK hK=>wj hLv (by rw[wi hlook];exact hfr) hK
    refine .inl <| run _ (λbt' u w' h' hv=>next _ _ (.inl ⟨hlast',bt',k,hk,λj oj hj hoj hx=> ?_,?_⟩))
    ·rw[hset]
     grind
    ·refine h'.put hv ?_;have hnt: (T k).nt=(T i).nt:=(ngT k hk).2.trans (ngT i (by omega)).2.symm;rw[<-henvS v (λd hd=>by rw[(mw hput).1];simp[hd])];unfold St.put at hput ⊢;cases hd:o.dst with
     |none=>simp
     |some d=>
      rw[hd] at hput;simp only at hput ⊢;split at hput
      ·rename_i hlt;rw[if_pos (by simpa [hnt] using hlt)];simp only[af]
       congr 1
       funext u
       unfold dQ
       grind
      ·cases hput
 have hw0:=h.drawn (w.drawn+1);refine wp_region_any hm (main ops.size _ (List.range ops.size) a _ (by simp) List.nodup_range (λi=> ?_) (by simp) (λj hj hjt=> ?_) (.inl ⟨λhlt=> ?_,bt,0,by omega,λi o hi ho _=> ?_,?_⟩))
 ·simp only[bw];constructor
  ·intro hi;exact⟨hi,by simp[aN,hi]⟩
  ·exactλh=>h.1
 ·simp[aN,hj] at hjt
 ·simp[aN,hlt]
 ·have:=(aD.1 ho).1;simp[aN,this]
 ·have e1:eB ops S SV (Array.replicate ops.size false)=S.env:=by
   funext t
   unfold eB;rw[if_neg];intro hd;obtain⟨i,o,h1,h2,_⟩:=fi.1 hd;have:=(aD.1 h1).1;simp[aN,this] at h2
  rw[e1,t1];exact hw0
end
end
section
open Go Go.RowKit
section
variable {P:Program} {w0 w w':World} {W:Nat->Prop} {btI bt bt':Bt} {SI S S':St} {a a':Act} {D:iC}
def fF(P:Program):Code->Bool
 | .skip=>true
 | .region _ ops _=>ops.toList.all (fY P)
 | .seq a b=>fF P a&&fF P b
 | .cond _ a b=>fF P a&&fF P b
 | .block _ c=>fF P c
 | .loop c=>fF P c
 | .exit _=>true
 | .ret=>true
 | _=>false
def X.out:X->Exit
 | .nor=> .normal
 | .ret=> .ret
 | .ext i=> .exit i
theorem vp{J:Nat->Prop}(h: ∃n,J n): ∃n,J n/\ ∀m,J m->n<=m:=by
 obtain⟨n,hn⟩:=h
 induction n using Nat.strongRecOn with
 | _ n ih=>grind
end
end
section
open Go Go.RowKit
section
variable {P:Program} {w0 w w':World} {W:Nat->Prop} {bt bt':Bt} {S0 S S':St} {a a':Act} {D:iC}
def tT(m:List (Nat×Nat))(n:Nat):Nat:=match m with | [] =>n| _::_=>0
@[simp] theorem nM (m:List (Nat×Nat)):tT m 0=0:=by cases m<;>rfl
def gR(bt:Bt)(σ:List (Option (Nat×Nat×Nat))):Bt where
 β:=λp=>match σ[p.r]? with |some (some x)=>((bt.β ⟨x.1,p.l⟩).1,(bt.β ⟨x.1,p.l⟩).2+tT p.l x.2.2)| _=>(0,0)
 κ:=λp=>match σ[p.r]? with |some (some x)=>bt.κ ⟨x.1,p.l⟩-tT p.l x.2.1| _=>0
 bb:=λ_=>0
 nb:=0
 ng:=σ.length
 A:=bt.A
theorem vB(bt:Bt)(σ τ:List (Option (Nat×Nat×Nat))): (gR bt σ).le (gR bt (σ++τ)):=by
 refine⟨az _,by simp[gR],λ_ h=>h,λp hp=> ?_,λp hp=> ?_,λ_ _=>rfl⟩
 all_goals grind [gR]
def Tr(S0:St)(r lo:Nat)(t:T):Prop:=∀m s rs,t.go m= .sl s rs-> ∃rs0,S0.look ⟨r,m⟩= .sl s rs0/\tT m lo+rs.length<=rs0.length/\ ∀ (i:Nat) (row:List T),rs[i]? =some row->rs0[tT m lo+i]? =some row
def DG(lo d:Nat)(t:T):Prop:=(lo=0/\d=0)\/ ∃s rows,t= .sl s rows/\d=lo*s/\s<=3/\ ∀r∈rows,∀x∈r,x.flat=true
structure Ex (S0 S:St) (gs:List T) (σ:List (Option (Nat×Nat×Nat))):Prop where
 len:σ.length=gs.length
 sub: ∀r t,S.gh r=some t->S0.gh r=some t
 fz:S.fz=S0.fz
 src: ∀ (k:Nat) (t:T),gs[k]? =some t->(∃r lo d,σ[k]? =some (some (r,lo,d))/\Tr S0 r lo t/\DG lo d t)\/(σ[k]? =some none/\ ∃sz,t= .sl sz [])
 inj: ∀ (j k r:Nat) x y,σ[j]? =some (some (r,x))->σ[k]? =some (some (r,y))->j=k
 used: ∀ (k r:Nat) x,σ[k]? =some (some (r,x))->r<S0.fz\/S.gh r=none
theorem Ex.give{gs:List T}{σ:List (Option (Nat×Nat×Nat))}(hx:Ex S0 S gs σ){pr lo d:Nat}{t t':T}(hgh:S.gh pr=some t)(hfz:S.fz<=pr)(ht:Tr S0 pr lo t')(ho:DG lo d t'):Ex S0 { S with gh:=dQ S.gh pr none } (gs++ [t']) (σ++ [some (pr,lo,d)])/\(σ++ [some (pr,lo,d)])[gs.length]? =some (some (pr,lo,d)):=by
 have hnew: (σ++ [some (pr,lo,d)])[gs.length]? =some (some (pr,lo,d)):=by rw[<-hx.len];simp
 have notin: ∀ (k:Nat) x,σ[k]? ≠some (some (pr,x)):=by
  intro k x hk;rcases hx.used k pr x hk with h|h
  ·rw[hx.fz] at hfz;omega
  ·rw[hgh] at h;cases h
 refine⟨⟨by simp[hx.len],λr t ht=> ?_,hx.fz,λk t hk=> ?_,λj k r x y hj hk=> ?_,λk r x hk=> ?_⟩,hnew⟩
 ·simp only[dQ] at ht;split at ht
  ·cases ht
  ·exact hx.sub r t ht
 ·rcases cZ k gs.length with hl|hl
  ·rw[aW hl] at hk;rw[aW (by rw[hx.len];exact hl)];exact hx.src k t hk
  ·obtain rfl:k=gs.length:=by
    have:=(ai.1 hk).1;simp at this;omega
   rw[be (az _),c9] at hk;cases hk;exact .inl ⟨pr,lo,d,hnew,ht,ho⟩
 ·rw[cQ] at hj hk;split at hj<;>split at hk
  ·exact hx.inj j k r x y hj hk
  all_goals grind
 ·rw[cQ] at hk;split at hk
  ·rcases hx.used k r x hk with h|h
   all_goals simp_all [dQ]
  grind [dQ]
theorem oc{pr s:Nat}{rows:List (List T)}(h:S.rows ⟨pr,[]⟩ s=some rows):S.gh pr=some (.sl s rows):=by
 have:=fw h
 grind [St.look,T.go]
theorem vd{s:Nat}{rows:List (List T)}(hf: ∀r∈rows,∀x∈r,x.flat=true){m:List (Nat×Nat)}{s':Nat}{rs:List (List T)}(h: (T.sl s rows).go m= .sl s' rs):m= [] :=by
 cases m with
 |nil=>rfl
 |cons z l=>
  obtain⟨i,j⟩:=z;simp only[T.go,T.cell] at h
  have fB: ∀x:T,x.flat=true\/x= .dd->x.go l≠ .sl s' rs:=by
   rintro x (hx|rfl) h
   ·cases x with
    |sc v=>cases l with
     |nil=>cases h
     |cons _ _=>rw[T.sc_go] at h;cases h
    | _=>cases hx
   ·cases l with
    |nil=>cases h
    |cons _ _=>rw[T.dd_go] at h;cases h
  refine absurd h (fB _ ?_);cases hr:rows[i]? with
  |none=>exact .inr (by simp[aB,hr])
  |some r=>
   cases hx:r[j]? with
   |none=>exact .inr (by simp[aB,hr,hx])
   |some x=>exact .inl (by simpa [aB,hr,hx] using hf r (aA hr) x (aA hx))
theorem n8{gs gs':List T}{σ:List (Option (Nat×Nat×Nat))}(hx:Ex S0 S gs σ){sz:Nat}{v v':AV}{u:Value}(hv:VR w bt v u)(h:kM S gs sz v=some (v',gs',S')):
  ∃τ,Ex S0 S' gs' (σ++τ)/\VR w (gR bt (σ++τ)) v' u:=by
 cases hv with
 |sc hs=>simp only[kM,af,au] at h;obtain⟨rfl,rfl,rfl⟩:=h;exact⟨[],by rw[bP];exact hx,.sc hs⟩
 |em ad=>
  simp only[kM,af,au] at h;obtain⟨rfl,rfl,rfl⟩:=h;have hnew: (σ++ [none])[gs.length]? =some none:=by rw[<-hx.len];simp
  refine⟨[none],⟨by simp[hx.len],hx.sub,hx.fz,λk t hk=> ?_,λj k r x y hj hk=> ?_,λk r x hk=> ?_⟩,.own (by simp[gR,hx.len]) (az _) (by simp[gR,hnew]) (λh=>absurd h (by omega))⟩
  ·rcases cZ k gs.length with hl|hl
   ·rw[aW hl] at hk;rw[aW (by rw[hx.len];exact hl)];exact hx.src k t hk
   grind
  ·have xP: ∀ (k:Nat) x,(σ++ [none])[k]? =some (some (r,x))->σ[k]? =some (some (r,x)):=by
    intro k x hk;rw[cQ] at hk;split at hk
    ·exact hk
    ·grind
   exact hx.inj j k r x y (xP j x hj) (xP k y hk)
  ·rw[cQ] at hk;split at hk
   ·exact hx.used k r x hk
   grind
 |own hp hc hkap ha=>
  rename_i p s lo len ad cap;simp only[kM] at h;split at h
  ·rename_i hcond;obtain⟨hl,rfl,hfz⟩:=hcond;simp only[ah] at h;obtain⟨rows,hrows,h⟩:=h;split at h
   ·rename_i hlen;obtain⟨hlen,hoff⟩:=hlen;simp only[af,au] at h;obtain⟨rfl,rfl,rfl⟩:=h;obtain⟨pr,pl⟩:=p;simp only at hl hfz;subst hl;have hgh:=oc hrows
    have hlk: ∀m,S0.look ⟨pr,m⟩=(T.sl s rows).go m:=by intro m;unfold St.look;rw[hx.sub pr _ hgh]
    have hdl: ((rows.drop lo).take len).length=len:=by simp;omega
    have hflat:lo≠0->s<=3/\ ∀r∈(rows.drop lo).take len,∀x∈r,x.flat=true:=λh0=>by
     rcases hoff with h| ⟨h1,h2⟩
     ·exact absurd h h0
     ·exact⟨h1,λr hr x hx=>ay.1 (ay.1 h2 r (bF (bS hr))) x hx⟩
    obtain⟨hx',hnew⟩:=hx.give (lo:=lo) (d:=lo*s) (t':=.sl s ((rows.drop lo).take len)) hgh hfz (λm s' rs hg=>by
     by_cases h0:lo=0
     ·subst h0;rw[cE] at hg;simp only[nM,aP];rcases T.go_take hg with ⟨rfl,rfl,rfl⟩| ⟨hm,hg'⟩
      ·exact⟨rows,hlk [],by simp;omega,λi row hi=>by grind⟩
      grind
     ·have hm:=vd (hflat h0).2 hg;subst hm;cases hg
      exact⟨rows,hlk [],by simp[tT];omega,λi row hi=>by
       rw[bn] at hi;split at hi
       ·rw[bh] at hi;exact hi
       ·cases hi⟩) (by
     by_cases h0:lo=0
     ·exact .inl ⟨h0,by simp[h0]⟩
     ·exact .inr ⟨s,_,rfl,rfl,(hflat h0).1,(hflat h0).2⟩)
    refine⟨[some (pr,lo,lo*s)],hx',.own (by simp[gR,hx.len]) hc ?_ (λh=> ?_)⟩
    ·simp only[gR,hnew,tT];omega
    ·rw[ha h];simp only[gR,hnew,tT,bQ,bI]
   ·cases h
  ·cases h
 |ptrT s i j hp hk=>
  rename_i p;simp only[kM] at h;split at h
  ·rename_i hcond;obtain⟨hl,hfz⟩:=hcond;simp only[ah] at h;obtain⟨rows,hrows,h⟩:=h;simp only[af,au] at h;obtain⟨rfl,rfl,rfl⟩:=h;obtain⟨pr,pl⟩:=p;simp only at hl hfz;subst hl;have hgh:=oc hrows;obtain⟨hx',hnew⟩:=hx.give (lo:=0) (d:=0) (t':=.sl s rows) hgh hfz (λm s' rs hg=>⟨rs,by unfold St.look;rw[hx.sub pr _ hgh];exact hg,by simp,λi row hi=>by simpa using hi⟩) (.inl ⟨rfl,rfl⟩);refine⟨[some (pr,0,0)],hx',?_⟩;have e: (gR bt (σ++ [some (pr,0,0)])).β ⟨gs.length,[]⟩=bt.β ⟨pr,[]⟩:=by simp only[gR,hnew];rfl
   rw[<-e];exact .ptrT s i j (by simp[gR,hx.len]) (by simp only[gR,hnew];exact hk)
  ·cases h
 | _=>simp[kM] at h
theorem qB: ∀ (szs:List Nat) (vs:List AV) (us:List Value) (gs gs':List T) (σ:List (Option (Nat×Nat×Nat))) (S S':St) (vs':List AV),Ex S0 S gs σ->us.length=vs.length->(∀ (k:Nat) (v:AV) (u:Value),vs[k]? =some v->us[k]? =some u->VR w bt v u)->
  jf S gs szs vs=some (vs',gs',S')-> ∃τ,Ex S0 S' gs' (σ++τ)/\us.length=vs'.length/\ ∀ (k:Nat) (v:AV) (u:Value),vs'[k]? =some v->us[k]? =some u->VR w (gR bt (σ++τ)) v u:=by
 intro szs
 induction szs with
 |nil=>
  intro vs us gs gs' σ S S' vs' hx hl hv h;cases vs with
  |nil=>simp only[jf,af,au] at h;obtain⟨rfl,rfl,rfl⟩:=h;exact⟨[],by rw[bP];exact hx,hl,λk v u hk=>by simp at hk⟩
  |cons v vs=>simp[jf] at h
 |cons sz szs ih=>
  intro vs us gs gs' σ S S' vs' hx hl hv h;cases vs with
  |nil=>simp[jf] at h
  |cons v vs=>
   cases us with
   |nil=>simp at hl
   |cons u us=>
    simp only[jf,ah,aj,Prod.exists,au] at h;obtain⟨v1,gs1,S1,h1,vs2,gs2,S2,h2,rfl,rfl,rfl⟩:=h;obtain⟨τ1,e1,e2⟩:=n8 hx (hv 0 v u rfl rfl) h1;obtain⟨τ2,e3,e4,e5⟩:=ih vs us gs1 gs2 (σ++τ1) S1 S2 vs2 e1 (by simpa using hl) (λk v u hk hu=>hv (k+1) v u (by simpa using hk) (by simpa using hu)) h2;refine⟨τ1++τ2,by rw[<-bk];exact e3,by simp[e4],λk v u hk hu=> ?_⟩;rw[<-bk];cases k with
    |zero=>simp only[aJ,af] at hk hu;subst hk hu;exact e2.mono (vB _ _ _) (λ_ _=>rfl)
    |succ k=>grind
theorem ub{gs gs':List T}{σ:List (Option (Nat×Nat×Nat))}(hx:Ex S0 S gs σ){t:TypeId}{v v':AV}{u:Value}(hv:VR w bt v u)(h:v8 P S gs t v=some (v',gs',S')):
  ∃τ,Ex S0 S' gs' (σ++τ)/\VR w (gR bt (σ++τ)) v' u:=by
 cases v with
 |agg cs=>
  simp only[v8,aj,Prod.exists,au] at h;obtain⟨vs,gs1,S1,h1,rfl,rfl,rfl⟩:=h;cases hv with
  |agg hl ho hr=>obtain⟨τ,e1,e2,e3⟩:=qB _ _ _ _ _ _ _ _ _ hx hl hr h1;exact⟨τ,e1,.agg e2 ho e3⟩
 | _=>exact n8 (sz:=(gk P 9 t).headD 0) hx hv h
theorem ud: ∀ (ts:List (TypeId×AV)) (us:List Value) (gs gs':List T) (σ:List (Option (Nat×Nat×Nat))) (S:St) (vs':List AV),Ex S0 S gs σ->us.length=ts.length->(∀ (k:Nat) (v:TypeId×AV) (u:Value),ts[k]? =some v->us[k]? =some u->VR w bt v.2 u)->
  uc P S gs ts=some (vs',gs')-> ∃τ S',Ex S0 S' gs' (σ++τ)/\us.length=vs'.length/\ ∀ (k:Nat) (v:AV) (u:Value),vs'[k]? =some v->us[k]? =some u->VR w (gR bt (σ++τ)) v u:=by
 intro ts
 induction ts with
 |nil=>intro us gs gs' σ S vs' hx hl hv h;simp only[uc,af,au] at h;obtain⟨rfl,rfl⟩:=h;exact⟨[],S,by rw[bP];exact hx,hl,λk v u hk=>by simp at hk⟩
 |cons tv ts ih=>
  intro us gs gs' σ S vs' hx hl hv h;obtain⟨t,v⟩:=tv;cases us with
  |nil=>simp at hl
  |cons u us=>
   simp only[uc,ah,aj,Prod.exists,au] at h;obtain⟨v1,gs1,S1,h1,vs2,gs2,h2,rfl,rfl⟩:=h;obtain⟨τ1,e1,e2⟩:=ub hx (hv 0 (t,v) u rfl rfl) h1;obtain⟨τ2,S2,e3,e4,e5⟩:=ih us gs1 gs2 (σ++τ1) S1 vs2 e1 (by simpa using hl) (λk v u hk hu=>hv (k+1) v u (by simpa using hk) (by simpa using hu)) h2;refine⟨τ1++τ2,S2,by rw[<-bk];exact e3,by simp[e4],λk v u hk hu=> ?_⟩;rw[<-bk];cases k with
   |zero=>simp only[aJ,af] at hk hu;subst hk hu;exact e2.mono (vB _ _ _) (λ_ _=>rfl)
   |succ k=>grind
theorem eh.out[dE](hI:eh w0 W bt S0 w){gs:List T}{σ:List (Option (Nat×Nat×Nat))}(hx:Ex S0 S gs σ):eh w0 W (gR bt σ) (gv gs) w:=by
 have look: ∀p s rs,(gv gs).look p= .sl s rs->(∃r lo d rs0,σ[p.r]? =some (some (r,lo,d))/\S0.look ⟨r,p.l⟩= .sl s rs0/\tT p.l lo+rs.length<=rs0.length/\(∀ (i:Nat) (row:List T),rs[i]? =some row->rs0[tT p.l lo+i]? =some row)/\((lo=0/\d=0)\/(p.l= [] /\d=lo*s/\s<=3/\ ∀r∈rs,∀x∈r,x.flat=true)))\/(σ[p.r]? =some none/\rs= []):=by
  intro p s rs h;unfold St.look gv at h;simp only at h;split at h
  ·rename_i t ht;rcases hx.src _ t ht with ⟨r,lo,d,h1,h2,h6⟩| ⟨h1,sz,rfl⟩
   ·obtain⟨rs0,h3,h4,h5⟩:=h2 _ _ _ h;refine .inl ⟨r,lo,d,rs0,h1,h3,h4,h5,?_⟩;rcases h6 with h6| ⟨s',rows,rfl,h7,h8,h9⟩
    ·exact .inl h6
    ·have hm:=vd h9 h;rw[hm] at h;cases h;exact .inr ⟨hm,h7,h8,h9⟩
   ·right;refine⟨h1,?_⟩;cases hl:p.l<;>grind [T.go,T.cell,T.dd_go]
  ·cases h
 have eκ: ∀ (p:dM) (r lo d:Nat),σ[p.r]? =some (some (r,lo,d))->(gR bt σ).κ p=bt.κ ⟨r,p.l⟩-tT p.l lo/\(gR bt σ).β p=((bt.β ⟨r,p.l⟩).1,(bt.β ⟨r,p.l⟩).2+tT p.l d):=by intro p r lo d h;simp[gR,h]
 have e0: ∀ (p:dM),σ[p.r]? =some none->(gR bt σ).κ p=0:=by intro p h;simp[gR,h]
 exact { good:=hI.good,os:=hI.os,tape:=hI.tape,output:=hI.output,size:=hI.size,keep:=hI.keep,nb:=rfl,ng:=by simp[gR,gv,hx.len]
         bx:=λn cells h=>by cases h
         gh:=λr t h=>(ai.1 h).1
         tr:=λp s rs h=>by
          rcases look p s rs h with ⟨r,lo,d,rs0,h1,h2,h3,h4,h5⟩| ⟨h1,rfl⟩
          ·rw[(eκ p r lo d h1).1,(eκ p r lo d h1).2];obtain⟨k1,k2⟩:=hI.tr _ _ _ h2;refine⟨by omega,λhk=>⟨(k2 (by omega)).1,?_⟩⟩;obtain⟨_,cs,e,g1,g2,g3,g4⟩:=k2 (by omega);refine⟨cs,e,by rw[(eκ p r lo d h1).2];exact g1,?_,g3,λi row hi=> ?_⟩
           ·rw[(eκ p r lo d h1).1,(eκ p r lo d h1).2];rcases h5 with ⟨rfl,rfl⟩| ⟨hl,rfl,h6,_⟩
            ·simpa using g2
            ·rw[hl] at g2 k1 h3 ⊢
             have :lo*s+(bt.κ ⟨r,[]⟩-lo)*s=bt.κ ⟨r,[]⟩*s:=by
              rw[<-bB]
              congr 1
              simp only[tT] at h3;omega
             exact⟨by have:=g2.1;simp only[tT];omega,.inr h6⟩
           ·obtain⟨m1,m2⟩:=g4 _ row (h4 i row hi);refine⟨m1,λj x hj=> ?_⟩;obtain⟨c,m3,m4⟩:=m2 j x hj;have:=eκ (p.sub i j) r lo d h1;rcases h5 with ⟨rfl,rfl⟩| ⟨hl,rfl,h6,h7⟩
            ·simp only[nM,aP,Nat.sub_zero] at m3 m4 this;refine⟨c,by rw[(eκ p r 0 0 h1).2];simpa using m3,?_⟩;cases m4 with
             |sc h=>exact .sc h
             |dd u=>exact .dd _
             |sl q1 q2 q3=>exact .sl q1 (by rw[this.1];exact q2) (by rw[this.2];exact q3)
            ·refine⟨c,?_,?_⟩
             ·rw[(eκ p r lo _ h1).2];rw[hl] at m3 ⊢;simp only[tT] at m3 ⊢;rw[<-m3]
              congr 1
              rw[bB];omega
             ·have hx':=h7 row (aA hi) x (aA hj);cases m4 with
              |sc h=>exact .sc h
              | _=>cases hx'
          grind
         inj:=λp q s rs s' rs' h h' hk hk' he=>by
          rcases look p s rs h with ⟨r,lo,d,rs0,h1,h2,_⟩| ⟨h1,_⟩
          ·rcases look q s' rs' h' with ⟨r',lo',d',rs0',h1',h2',_⟩| ⟨h1',_⟩
           ·rw[(eκ p r lo d h1).1] at hk;rw[(eκ q r' lo' d' h1').1] at hk';rw[(eκ p r lo d h1).2,(eκ q r' lo' d' h1').2] at he;have:=hI.inj _ _ _ _ _ _ h2 h2' (by omega) (by omega) he;simp only[dM.mk.injEq] at this;obtain⟨rfl,hl⟩:=this;obtain⟨pr,pl⟩:=p;obtain⟨qr,ql⟩:=q;simp only at*;rw[hl,hx.inj pr qr r _ _ h1 h1']
           ·rw[e0 q h1'] at hk';omega
          ·rw[e0 p h1] at hk;omega
         bbinj:=λn m c c' h=>by cases h
         bbtr:=λn c p s rs h=>by cases h
         alt:=hI.alt
         atr:=λp s rs h hk=>by
          rcases look p s rs h with ⟨r,lo,d,rs0,h1,h2,_⟩| ⟨h1,_⟩
          ·rw[(eκ p r lo d h1).1] at hk;rw[(eκ p r lo d h1).2];exact hI.atr _ _ _ h2 (by omega)
          ·rw[e0 p h1] at hk;omega
         abb:=λn c h=>by cases h }
end
end
section
open Go Go.RowKit
def rn(P:Program)(f:FuncId):Option Func:=(P.funcs[f]?).bind λfn=>match fn.body with
 |none=>none
 |some c=>if fn.name== "runtime.NumGoroutine" || !fF P c then none else some fn
def m0(P:Program)(S:St):ResultVar->Option AV
 | .tmp t=>some (S.env t)
 | .cell a t=>if 0<P.cellsOf t then load P S t (S.env a) else none
def Bg(n:Nat)(args:List AV)(gs:List T):St:={ env:=λt=>args.getD t .dead,bx:=λ_=>none,gh:=λn=>gs[n]?,nb:=0,ng:=gs.length,fz:=gs.length,orc:=none,nt:=args.length+(n-args.length) }
def CF:List AV->AV
 | [v] =>v
 |vs=> .tup vs
def xk(P:Program)(rs:List ResultVar)(ts:List TypeId)(n:Nat)(S:St):Option (AV×List T):=
 (rs.mapM (m0 P S)).bind λvs=>if vs.length=ts.length then (uc P S ((List.range n).map λr=>(S.gh r).getD .dd) (ts.zip vs)).map λ(vs,out)=>(CF vs,out) else none
def qW(tmps:Array Value):ResultVar->Sem Value
 | .tmp t=>pure (tmps.getD t undef)
 | .cell b t=>do loadVar t (<-asAddr (tmps.getD b undef))
section
variable {P:Program} {w0 w w':World} {W:Nat->Prop} {bt bt':Bt} {S0 S S':St} {a a':Act} {D:iC}
theorem sV[dE](hI:eh w0 W bt S w)(hE:ER w bt S a){fn:Func}{vs:List AV}(h:fn.results.toList.mapM (m0 P S)=some vs):
  ∃us:List Value,us.length=vs.length/\(∀ (k:Nat) (v:AV) (u:Value),vs[k]? =some v->us[k]? =some u->VR w bt v u)/\(results fn a.tmps).run P w= .ok (match us with | [u] =>u|us=> .tuple us.toArray) w:=by
 have fB: ∀ (rs:List ResultVar) (vs:List AV),rs.mapM (m0 P S)=some vs-> ∃us:List Value,us.length=vs.length/\(∀ (k:Nat) (v:AV) (u:Value),vs[k]? =some v->us[k]? =some u->VR w bt v u)/\
   (rs.mapM (qW a.tmps)).run P w= .ok us w:=by
  intro rs
  induction rs with
  |nil=>simp_all
  |cons r rs ih=>
   intro vs h;simp only[cF,cX,ah,Option.pure_def,af] at h;obtain⟨v,h1,vs',h2,rfl⟩:=h;obtain⟨us,g1,g2,g3⟩:=ih vs' h2
   have one: ∃u,(qW a.tmps r).run P w= .ok u w/\VR w bt v u:=by
    cases r with
    |tmp t=>simp only[m0,af] at h1;subst h1;exact⟨_,rfl,hE.2 t⟩
    |cell b t=>
     simp only[m0] at h1;split at h1
     ·rename_i hpos;simp only[load,ah] at h1;obtain⟨ag,hag,cs,hcs,hm⟩:=h1;obtain⟨ad,us,he,hul,hcl,hc,ho,hr⟩:=kG hI (hE.2 b) hcs hpos;obtain⟨u',k1,k2⟩:=jy hag hul hc (by omega) ho hr hm
      grind [qW,asAddr]
     ·cases h1
   obtain⟨u,k1,k2⟩:=one;refine⟨u::us,by simp[g1],λk v' u' hk hu=> ?_,?_⟩
   all_goals grind [Sem.run_bind,Result.andThen_ok,Sem.run_pure]
 obtain⟨us,g1,g2,g3⟩:=fB _ _ h;refine⟨us,g1,g2,?_⟩
 have hres:results fn a.tmps=(do
   let vs <-fn.results.mapM (qW a.tmps)
   pure (if h:vs.size=1 then vs[0] else .tuple vs)):=rfl
 rw[hres,Array.mapM_eq_mapM_toList];simp only[Sem.run_bind,map_eq_pure_bind,g3,Result.andThen_ok,Sem.run_pure]
 congr 1
 match us with
 | [] =>rfl
 | [u] =>rfl
 |u::u'::us=>simp
end
end
section
open Go Go.RowKit
section
variable {P:Program} {w0 w w':World} {W:Nat->Prop} {btI bt bt' bt0:Bt} {SI S S' S1:St} {a a':Act} {D:iC}
def gQ[dE](P:Program)(c:Code)(S:St)(Post:X->St->Prop):Prop:=
 ∀ ⦃w0:World⦄ ⦃W:Nat->Prop⦄ ⦃btI:Bt⦄ ⦃SI:St⦄ ⦃bt:Bt⦄ ⦃a:Act⦄ ⦃w:World⦄ ⦃Q:Exit->Act->World->Prop⦄,Lv w0 W btI SI bt S a w->
   (∀x S' bt' a' w',Post x S'->Lv w0 W btI SI bt' S' a' w'->Q x.out a' w')->c.wp P Q a w
def mN[dE](P:Program)(ops:Array Oper)(l:List Oper)(S:St)(Post:St->Prop):Prop:=
 ∀ (k:Nat) ⦃w0:World⦄ ⦃W:Nat->Prop⦄ ⦃btI:Bt⦄ ⦃SI:St⦄ ⦃bt:Bt⦄ ⦃a:Act⦄ ⦃w:World⦄ ⦃Q:Exit->Act->World->Prop⦄,ops.toList.drop k=l->Lv w0 W btI SI bt S a w->
   (∀S' bt' a' w',Post S'->Lv w0 W btI SI bt' S' a' w'->Q .normal a' w')->wpOps P ops Q (List.range' k l.length) a w
def gK[dE](S S1:St):Prop:=∀ ⦃w0:World⦄ ⦃W:Nat->Prop⦄ ⦃btI:Bt⦄ ⦃SI:St⦄ ⦃bt:Bt⦄ ⦃a:Act⦄ ⦃w:World⦄,Lv w0 W btI SI bt S a w-> ∃bt1,Lv w0 W btI SI bt1 S1 a w
theorem gK.refl[dE]:gK S S:=by intro w0 W btI SI bt a w h;exact⟨_,h⟩
theorem gK.trans[dE]{S2:St}(h:gK S S1)(k:gK S1 S2):gK S S2:=by intro w0 W btI SI bt a w hl;obtain⟨bt1,h1⟩:=h hl;exact k h1
theorem gQ.mono[dE]{c:Code}{Post Post':X->St->Prop}(h:gQ P c S Post)(hp: ∀x S,Post x S-> ∃S',gK S S'/\Post' x S'):gQ P c S Post':=by intro w0 W btI SI bt a w Q hl hK;refine h hl (λx S' bt' a' w' hP hl'=> ?_);obtain⟨S2,h1,h2⟩:=hp x S' hP;obtain⟨bt2,h3⟩:=h1 hl';exact hK x S2 bt2 a' w' h2 h3
theorem gQ.weak[dE]{c:Code}{Post:X->St->Prop}(hw:gK S S1)(h:gQ P c S1 Post):gQ P c S Post:=by intro w0 W btI SI bt a w Q hl hK;obtain⟨bt1,h1⟩:=hw hl;exact h h1 hK
theorem gQ.skip[dE]{Post:X->St->Prop}(h:Post .nor S):gQ P .skip S Post:=by intro w0 W btI SI bt a w Q hl hK;exact wp_skip (hK _ _ _ _ _ h hl)
theorem gQ.exit[dE]{Post:X->St->Prop}{i:Nat}(h:Post (.ext i) S):gQ P (.exit i) S Post:=by intro w0 W btI SI bt a w Q hl hK;exact wp_exit (hK _ _ _ _ _ h hl)
theorem gQ.ret[dE]{Post:X->St->Prop}(h:Post .ret S):gQ P .ret S Post:=by intro w0 W btI SI bt a w Q hl hK;exact wp_ret (hK _ _ _ _ _ h hl)
theorem gQ.region[dE]{Post:X->St->Prop}{id:Nat}{ops:Array Oper}(h:mN P ops ops.toList S (Post .nor)):gQ P (.region id ops false) S Post:=by intro w0 W btI SI bt a w Q hl hK;refine wp_region ?_;have:=h 0 (Q:=Q) rfl hl (λS' bt' a' w' hP hl'=>hK .nor S' bt' a' w' hP hl');rw[bT];simpa using this
theorem gQ.draw[dE]{Post:X->St->Prop}{id:Nat}{ops:Array Oper}(hD:fr P D)(hm:P.follows .mixedOrders=true)(hok:nY P ops=true){S0 SV:St}{ms:List eP}(hpre:qT P ops.toList S=some S0)(hV:po D P ops ops.toList S0=some (SV,ms))(hev:ua (iH P) ops.toList (ef ops.toList) S0 ms SV=true)(hS:pp D P ops ops.toList SV=some S')
  (h:Post .nor S'):gQ P (.region id ops true) S Post:=by
 intro w0 W btI SI bt a w Q hl hK;exact t9 hD hm hok hpre hl hV hev hS (λbt' a' w' h'=>hK .nor S' bt' a' w' h h')
theorem gQ.phase[dE]{Post:X->St->Prop}{id:Nat}{ops:Array Oper}(hm:P.follows .mixedOrders=true)(ok:Bc ops (ef ops.toList))(T:Nat->St)(t1:T 0=S){m:Nat}
  (hmn:m=ops.size\/m+1=ops.size/\ ∃o,ops[m]? =some o/\dB o=true/\wW P (T m) o (T (m+1))/\ ∀j,j<m->j∈(ef ops.toList).getD m [])
  (hs: ∀i o,i<m->ops[i]? =some o->pH P S.ng ops.toList (ef ops.toList) T i o) (h:Post .nor (T ops.size)):gQ P (.region id ops true) S Post:=by
 intro w0 W btI SI bt a w Q hl hK;exact sQ hm ok hl T t1 rfl hmn hs (λbt' a' w' h'=>hK .nor _ bt' a' w' h h')
theorem gQ.seq[dE]{Post:X->St->Prop}{c d:Code}(h:gQ P c S (λx S1=>match x with | .nor=>gQ P d S1 Post|x=>Post x S1)):gQ P (.seq c d) S Post:=by
 intro w0 W btI SI bt a w Q hl hK;refine wp_seq (h hl (λx S1 bt' a' w' hP hl'=> ?_));cases x with
 |nor=>exact hP hl' hK
 |ret=>exact hK _ _ _ _ _ hP hl'
 |ext i=>exact hK _ _ _ _ _ hP hl'
theorem gQ.cond[dE]{Post:X->St->Prop}{t:Operand}{c d:Code}{b:Bool}(hb:opd S t= .sc (.bool b))(h:gQ P (if b then c else d) S Post):gQ P (.cond t c d) S Post:=by
 intro w0 W btI SI bt a w Q hl hK;have hv:=dP hl.er t;rw[hb] at hv;refine wp_cond hv.inv_sc ?_;cases b with
 |true=>exact h hl hK
 |false=>exact h hl hK
theorem gQ.block[dE]{Post:X->St->Prop}{i:Nat}{c:Code}(h:gQ P c S (λx S1=>match x with | .ext j=>if j=i then Post .nor S1 else Post (.ext j) S1|x=>Post x S1)):gQ P (.block i c) S Post:=by
 intro w0 W btI SI bt a w Q hl hK;refine wp_block (h hl (λx S1 bt' a' w' hP hl'=> ?_));cases x with
 |nor=>exact hK _ _ _ _ _ hP hl'
 |ret=>exact hK _ _ _ _ _ hP hl'
 |ext j=>
  show Exit.inBlock i Q (.exit j) a' w';unfold Exit.inBlock;simp only;simp only at hP;split
  ·rename_i hj;rw[if_pos hj] at hP;exact hK _ _ _ _ _ hP hl'
  ·rename_i hj;rw[if_neg hj] at hP;exact hK _ _ _ _ _ hP hl'
theorem gQ.loop[dE]{Post:X->St->Prop}{c:Code}(I:Nat->St->Prop)(h: ∀n S,I n S->gQ P c S (λx S1=>match x with | .nor=> ∃m,m<n/\I m S1|x=>Post x S1)){n:Nat}(h0:I n S):gQ P (.loop c) S Post:=by
 intro w0 W btI SI bt a w Q hl hK
 let J:Nat->Act->World->Prop:=λn a w=> ∃bt S,Lv w0 W btI SI bt S a w/\I n S
 classical
 refine wp_loop (λa w=> ∃n,J n a w) (λa w=>if hx: ∃n,J n a w then Classical.choose (vp hx) else 0) ⟨n,bt,S,hl,h0⟩ (λa w hx=> ?_);obtain⟨hj,hmin⟩:=Classical.choose_spec (vp hx);generalize hnn:Classical.choose (vp hx)=n at*;simp only[dif_pos hx,hnn];obtain⟨bt,S,hl,hI⟩:=hj;refine h n S hI hl (λx S1 bt' a' w' hP hl'=> ?_);cases x with
 |nor=>
  obtain⟨m,hm,hI'⟩:=hP;have hex: ∃n,J n a' w':=⟨m,bt',S1,hl',hI'⟩
  refine⟨hex,?_⟩;rw[dif_pos hex];exact Nat.lt_of_le_of_lt ((Classical.choose_spec (vp hex)).2 m ⟨bt',S1,hl',hI'⟩) hm
 |ret=>exact hK _ _ _ _ _ hP hl'
 |ext i=>exact hK _ _ _ _ _ hP hl'
theorem mN.nil[dE]{Post:St->Prop}{ops:Array Oper}(h:Post S):mN P ops [] S Post:=by intro k w0 W btI SI bt a w Q _ hl hK;exact hK _ _ _ _ h hl
theorem mN.weak[dE]{Post:St->Prop}{ops:Array Oper}{l:List Oper}(hw:gK S S1)(h:mN P ops l S1 Post):mN P ops l S Post:=by intro k w0 W btI SI bt a w Q hd hl hK;obtain⟨bt1,h1⟩:=hw hl;exact h k hd h1 hK
theorem mN.eqnil[dE]{Post:St->Prop}{ops:Array Oper}{o:Oper}{l:List Oper}{t t' el:TypeId}{x:Operand}{sz:Nat}{rows:List (List T)}(hel:i8 P t=some el)(ho:o.op= .binOp .eql t x (.const (.slice none 0 0)) t')(hg:o.guard=none)(hx:opd S x= .ro sz rows)
  (h1:rows= [] -> ∃S1,S.put o.dst (.sc (.bool true))=some S1/\mN P ops l S1 Post) (h2: ∃S1,S.put o.dst (.sc (.bool false))=some S1/\mN P ops l S1 Post):mN P ops (o::l) S Post:=by
 intro k w0 W btI SI bt a w Q hd hl hK
 have hko:ops.toList[k]? =some o:=by have:=congrArg (λx:List Oper=>x[0]?) hd;simpa [bh] using this
 have hko':ops[k]? =some o:=by simpa using hko
 have hd':ops.toList.drop (k+1)=l:=by rw[<-cn,hd];rfl
 have hw:=gP (ops:=ops) (o:=o) (b:=true) hl.er (by unfold gz;rw[hg]);have hv:=dP hl.er x;rw[hx] at hv
 obtain⟨b,hb,hrun⟩: ∃b,(b=true->rows= [])/\(execOp a.eval o).run P w= .ok (.value (.bool b)) w:=by
  obtain⟨dst,op,type,pos,after,guard⟩:=o;simp only at ho;subst ho;have hc:a.eval (.const (.slice none 0 0))= .slice none 0 0:=rfl
  have run: ∀ (ad:Option Addr) (n c:Nat),a.eval x= .slice ad n c->(execOp a.eval ⟨dst,.binOp .eql t x (.const (.slice none 0 0)) t',type,pos,after,guard⟩).run P w= .ok (.value (.bool ad.isNone)) w:=by
   intro ad n c hu;have e:execOp a.eval ⟨dst,.binOp .eql t x (.const (.slice none 0 0)) t',type,pos,after,guard⟩=(do pure (Next.value (<-(do eqGuard .eql t x (.const (.slice none 0 0)) (a.eval x) (a.eval (.const (.slice none 0 0)));binOp .eql t (a.eval x) (a.eval (.const (.slice none 0 0))))))):=rfl;rw[e,hu,hc]
   have g: (eqGuard .eql t x (.const (.slice none 0 0)) (.slice ad n c) (.slice none 0 0)).run P w= .ok () w:=by simp[eqGuard]
   have q: (binOp .eql t (.slice ad n c) (.slice none 0 0)).run P w= .ok (.bool ad.isNone) w:=by
    show (do pure (.bool (<-Op.equal t (.slice ad n c) (.slice none 0 0))):Sem Value).run P w=_
    have : (Op.equal t (.slice ad n c) (.slice none 0 0)).run P w= .ok ad.isNone w:=by show (Op.equalIn (9999+1) t (.slice ad n c) (.slice none 0 0)).run P w=_;rw[Op.equalIn];simp only[Sem.run_bind,run_underlying (eY hel),Result.andThen_ok];cases ad<;>rfl
    simp only[Sem.run_bind,this,Result.andThen_ok,Sem.run_pure]
   simp only[Sem.run_bind,g,q,Result.andThen_ok,Sem.run_pure]
  generalize hu:a.eval x=u at*;cases hv with
  |ro hro=>cases hro<;>grind
 simp only[bD,cq];unfold wpOps;rw[hko'];simp only;rw[hw,if_pos rfl];left;unfold Oper.wp;rw[hrun,Oper.upon_value];cases b with
 |true=>obtain⟨S1,g1,g2⟩:=h1 (hb rfl);exact g2 (k+1) hd' (hl.put (.sc rfl) g1) hK
 |false=>obtain⟨S1,g1,g2⟩:=h2;exact g2 (k+1) hd' (hl.put (.sc rfl) g1) hK
theorem mN.cons[dE]{Post:St->Prop}{ops:Array Oper}{o:Oper}{l:List Oper}{b:Bool}(hb:gz S ops o=some b)
  (h:if b then ∃S1,wW P S o S1/\mN P ops l S1 Post else ∃S1,S.put o.dst (.tup [])=some S1/\mN P ops l S1 Post):mN P ops (o::l) S Post:=by
 intro k w0 W btI SI bt a w Q hd hl hK
 have hko:ops.toList[k]? =some o:=by have:=congrArg (λx:List Oper=>x[0]?) hd;simpa [bh] using this
 have hko':ops[k]? =some o:=by simpa using hko
 have hd':ops.toList.drop (k+1)=l:=by rw[<-cn,hd];rfl
 have hw:=gP hl.er hb;simp only[bD,cq];unfold wpOps;rw[hko'];simp only;cases b with
 |true=>simp only[if_true] at h;obtain⟨S1,h1,h2⟩:=h;rw[hw,if_pos rfl];exact .inl (h1 hl (λbt' a' w' h'=>h2 (k+1) hd' h' hK))
 |false=>simp only[aQ,if_false] at h;obtain⟨S1,h1,h2⟩:=h;rw[hw,if_neg (by simp)];exact h2 (k+1) hd' (hl.put nI h1) hK
def vR(n:Nat)(args:List AV)(gs:List T)(m:Nat):St:={ Bg n args gs with fz:=m }
theorem ry[dE]{f:FuncId}{fn:Func}{c:Code}(hfn:rn P f=some fn)(hc:fn.body=some c){args:List AV}{gs:List T}{m:Nat}(hm:m<=gs.length){res:AV}{out:List T}
  (h:gQ P c (vR fn.ntmps args gs m) (λx S=>match x with | .ext _=>False| _=>xk P fn.results.toList fn.resultTypes.toList m S=some (res,out))):eV P f args gs m res out:=by
 intro w W bt0 vals hI hl hv
 obtain⟨hf,hname,hcok⟩:P.funcs[f]? =some fn/\(fn.name== "runtime.NumGoroutine")=false/\fF P c=true:=by
  unfold rn at hfn
  grind
 have hname': ¬fn.name= "runtime.NumGoroutine" :=by simpa using hname
 refine⟨by simp[callFunc,hf,hname',hc],calls_of_wp hf hc ?_⟩
 have h0:Lv w W bt0 (vR fn.ntmps args gs m) bt0 (vR fn.ntmps args gs m) { tmps:=vals.toArray++Array.replicate (fn.ntmps-vals.toArray.size) undef,defers:=[] } w:=by
  refine⟨{ good:=hI.good,os:=hI.os,tape:=hI.tape,output:=hI.output,size:=hI.size,keep:=hI.keep,nb:=hI.nb,ng:=hI.ng,bx:=hI.bx,gh:=hI.gh,tr:=hI.tr,inj:=hI.inj,bbinj:=hI.bbinj,bbtr:=hI.bbtr,alt:=hI.alt,atr:=hI.atr,abb:=hI.abb },
   ⟨by simp[hl];rfl,λt=> ?_⟩,rfl,rfl,hm,λ_ _=>⟨rfl,rfl⟩,λ_ _ h=>h⟩
  show VR w bt0 (args.getD t .dead) _;cases ha:args[t]? with
  |none=>simp only[aB,ha,Option.getD_none];exact .dead _
  |some v=>
   have ht:=(ai.1 ha).1;have hvt:vals[t]? =some (vals[t]'(by omega)):=aq _
   have : (vals.toArray++Array.replicate (fn.ntmps-vals.toArray.size) undef).getD t undef=vals[t]'(by omega):=by rw[aN,bZ (by simp;omega)];simp[hvt]
   grind
 refine h h0 (λx S1 bt' a' w' h2 h'=> ?_)
 have fin:xk P fn.results.toList fn.resultTypes.toList m S1=some (res,out)-> ∃v,(results fn a'.tmps).run P w'= .ok v w'/\ ∃v' btn,Ending.returned v= .returned v'/\eh w W btn (gv out) w'/\m<=out.length/\(∀p:dM,p.r<m->btn.β p=bt0.β p/\btn.κ p=bt0.κ p)/\VR w' btn res v':=by
  intro h2;unfold xk at h2;simp only[ah] at h2;obtain⟨vs,h3,h4⟩:=h2;split at h4
  ·rename_i hlen;simp only[aj,Prod.exists,au] at h4;obtain⟨vs',out',h5,rfl,rfl⟩:=h4;obtain⟨us,g1,g2,g3⟩:=sV h'.inv h'.er h3;have hfz:S1.fz=m:=h'.fz
   have hx0:Ex S1 S1 ((List.range m).map λr=>(S1.gh r).getD .dd) ((List.range m).map λr=>some (r,0,0)):=by
    refine⟨by simp,λ_ _ h=>h,rfl,λk t hk=> ?_,λj k r hj hk=> ?_,λk r hk=> ?_⟩
    ·simp only[aw,aj] at hk;obtain⟨r,hr,rfl⟩:=hk
     have :r=k/\k<m:=by rw[ai] at hr;obtain⟨q1,q2⟩:=hr;simp at q1 q2;exact⟨q2.symm,q1⟩
     obtain⟨rfl,hk⟩:=this;refine .inl ⟨r,0,0,by simp[hk],λm s rs hg=>⟨rs,?_,by simp,λ_ _ h=>by simpa using h⟩,.inl ⟨rfl,rfl⟩⟩;cases hgh:S1.gh r with
     |none=>have:=h'.gone r hk hgh;simp[vR,Bg] at this;omega
     |some t=>grind [St.look]
    ·grind
    ·grind
   obtain⟨τ,S2,e1,e2,e3⟩:=ud (bt:=bt') (w:=w') _ us _ _ _ _ _ hx0 (by simp[g1,hlen]) (λk tv u hk hu=>by grind) h5
   have hout:=h'.inv.out e1
   have hlo:m<=out'.length:=by rw[<-e1.len];simp
   refine⟨_,g3,_,_,rfl,hout,hlo,λp hp=> ?_,?_⟩
   ·have hσ: (((List.range m).map λr=>some (r,0,0))++τ)[p.r]? =some (some (p.r,0,0)):=by
     rw[aW (by simpa using hp)];simp[hp]
    have:=h'.keep p hp;simp only[gR,hσ,nM];exact this
   ·match vs',us,e2,e3 with
    | [v],[u],_,e3=>exact e3 0 v u rfl rfl
    | [],[],_,e3=>exact .tup rfl (λk c u hk=>by simp at hk)
    |v::v'::vs',u::u'::us,e2,e3=>exact .tup e2 e3
  ·cases h4
 simp only at h2;cases x with
 |ext i=>simp at h2
 |nor=>exact⟨h'.defers,fin h2⟩
 |ret=>exact⟨h'.defers,fin h2⟩
end
end
section
open Go Go.RowKit
section
variable {P:Program} {w0 w w':World} {W:Nat->Prop} {bt btn:Bt} {S:St} {a:Act} {A:Nat->Prop}
def AV.plain:AV->Bool
 | .sc _=>true
 | .tup [] =>true
 | _=>false
theorem VR.plain{bt':Bt}{v:AV}{u:Value}(h:VR w bt v u)(hp:v.plain=true):VR w bt' v u:=by
 cases h with
 |sc h=>exact .sc h
 |tup hl h=>
  rename_i cs us;cases cs with
  |nil=>exact .tup hl (λk c u h1=>by simp at h1)
  |cons c cs=>cases hp
 | _=>cases hp
theorem rI[dE](hI:eh w0 W bt S w)(hE:ER w bt S a){t el:TypeId}{z:Value}(hel:i8 P t=some el)(hze:lV P el=some [z])(hsc:gG z=true){r lo len:Nat}{rows:List (List T)}{u:Value}(hv:VR w bt (.own ⟨r,[]⟩ 1 lo len) u)(hr:S.gh r=some (.sl 1 rows))(hle:lo+len<=rows.length)(ty:TypeId):
  ∃w',(Builtin.clear_ #[t] ty #[u]).run P w= .ok (.tuple #[]) w'/\eO w0 W bt S a bt { S with gh:=dQ S.gh r (some (.sl 1 (rows.take lo++List.replicate len [.sc z] ++rows.drop (lo+len)))) } w':=by
 have hlook:S.look ⟨r,[]⟩= .sl 1 rows:=by unfold St.look;simp only[hr];rfl
 obtain⟨ti,zv,hi,hz,hzc,hzo⟩:=fS hze
 have same: ({ S with gh:=dQ S.gh r (some (.sl 1 rows)) }:St)=S:=by
  have :dQ S.gh r (some (.sl 1 rows))=S.gh:=by
   funext k
   unfold dQ;split
   ·rename_i e;rw[e,hr]
   ·rfl
  rw[this]
 cases hv with
 |own hp hc hk ha=>
  rename_i ad cap;rcases bo len with h0|h0
  ·subst h0;refine⟨w,by cases ad<;>simp[Builtin.clear_,run_underlying (eY hel)],?_⟩;have :rows.take lo++List.replicate 0 [T.sc z] ++rows.drop (lo+0)=rows:=by simp
   rw[this,same];exact⟨hI,hE,rfl,trivial,az _,λ_ _=>⟨rfl,rfl⟩,λ_ _ h=>h⟩
  ·have had:=ha (by omega);subst had;obtain⟨hlen,hrest⟩:=hI.tr _ _ _ hlook;have hk0:0<bt.κ ⟨r,[]⟩:=by omega
   obtain⟨_,arr,e,hh,⟨hκs,_⟩,hone,hcell⟩:=hrest hk0
   have hcz:Builtin.zeroCells zv.cells len=(List.replicate len z).toArray:=by
    have hzs:zv.cells= #[z] :=by apply Array.ext';exact hzc.symm
    rw[hzs];apply Array.ext
    ·simp[Builtin.zeroCells]
    ·intro k h1 h2;simp[Builtin.zeroCells,Nat.mod_one]
   have hz1:z.oneCell'=true:=by have:=ay.1 hzo z (by rw[<-hzc];exact aL.2 rfl);exact this
   have hst:=run_storeCells_at P (bt.β ⟨r,[]⟩).1 ((bt.β ⟨r,[]⟩).2+lo*1) e (List.replicate len z) 0 arr w hh (by simp;omega) (λv hv=>by rw[(List.mem_replicate.1 hv).2];exact hz1);generalize hcs: (arr.toList.take ((bt.β ⟨r,[]⟩).2+lo*1+0)++List.replicate len z++arr.toList.drop ((bt.β ⟨r,[]⟩).2+lo*1+0+(List.replicate len z).length)).toArray=cs at hst
   have hcs': ∀k,cs[(bt.β ⟨r,[]⟩).2+k]? =if k<lo then arr[(bt.β ⟨r,[]⟩).2+k]? else if k<lo+len then some z else arr[(bt.β ⟨r,[]⟩).2+k]? :=by
    intro k;have:=iK arr.toList (List.replicate len z) ((bt.β ⟨r,[]⟩).2+lo) (by simp;omega) ((bt.β ⟨r,[]⟩).2+k);rw[<-hcs];simp only[List.length_replicate,Nat.mul_one,bI] at this ⊢;simp only[cf,this,cw];by_cases q1:k<lo
    ·rw[if_pos (by omega),if_pos q1]
    ·rw[if_neg (by omega),if_neg q1];by_cases q2:k<lo+len
     ·rw[if_pos (by omega),if_pos q2,da,if_pos (by omega)]
     ·rw[if_neg (by omega),if_neg q2]
   have hsize:cs.size=arr.size:=by rw[<-hcs];simp;omega
   have hrg: ∀i,(rows.take lo++List.replicate len [T.sc z] ++rows.drop (lo+len))[i]? =if i<lo then rows[i]? else if i<lo+len then some [T.sc z] else rows[i]? :=by
    intro i;have:=iK rows (List.replicate len [T.sc z]) lo (by simp;omega) i;simp only[List.length_replicate] at this;rw[this];by_cases q1:i<lo
    ·rw[if_pos q1,if_pos q1]
    ·rw[if_neg q1,if_neg q1];by_cases q2:i<lo+len
     ·rw[if_pos q2,if_pos q2,da,if_pos (by omega)]
     ·rw[if_neg q2,if_neg q2]
   obtain⟨hI',hA⟩:=hI.setTree (rows:=rows.take lo++List.replicate len [.sc z] ++rows.drop (lo+len)) (cs:=cs) hlook hk0 hh hsize
    (λk x hk=>by
      have hm:x∈arr.toList.take ((bt.β ⟨r,[]⟩).2+lo*1+0)++List.replicate len z++arr.toList.drop ((bt.β ⟨r,[]⟩).2+lo*1+0+(List.replicate len z).length):=by rw[<-hcs] at hk;exact aA (i:=k) (by simpa using hk)
      have ha:x∈arr.toList->x.oneCell'=true:=λh=>by obtain⟨n,h1,h2⟩:=aU h;exact hone n x (by rw[<-h2];simp)
      rcases bC.1 hm with h|h
      ·rcases bC.1 h with h|h
       ·exact ha (bS h)
       ·rw[(List.mem_replicate.1 h).2];exact hz1
      ·exact ha (bF h))
    (by simp;omega)
    (λi row hrow=>by
      rw[hrg] at hrow
      have old:rows[i]? =some row->(∀k,k<1-> ¬ (lo<=i/\i<lo+len))->row.length=1/\ ∀ (j:Nat) (x:T),row[j]? =some x->(∃c,cs[(bt.β ⟨r,[]⟩).2+(i*1+j)]? =some c/\HR bt ((⟨r,[]⟩:dM).sub i j) x c)/\((∃v,x= .sc v)\/x= .dd\/ ∃r0,rows[i]? =some r0/\r0[j]? =some x):=by
       intro h1 h2;obtain⟨k1,k2⟩:=hcell i row h1;refine⟨k1,λj x hx=>⟨?_,.inr (.inr ⟨row,h1,hx⟩)⟩⟩;obtain⟨c,m1,m2⟩:=k2 j x hx;have hj:j<row.length:=(ai.1 hx).1;refine⟨c,?_,m2⟩;have:=h2 0 cz;rw[hcs'];by_cases q1:i*1+j<lo
       ·rw[if_pos q1];exact m1
       ·rw[if_neg q1,if_neg (by omega)];exact m1
      by_cases q1:i<lo
      ·rw[if_pos q1] at hrow;exact old hrow (λ_ _=>by omega)
      ·rw[if_neg q1] at hrow;by_cases q2:i<lo+len
       ·rw[if_pos q2] at hrow;simp only[af] at hrow;subst hrow;refine⟨rfl,λj x hx=> ?_⟩;cases j with
        |zero=>simp only[aJ,af] at hx;subst hx;exact⟨⟨z,by rw[hcs',if_neg (by omega),if_pos (by omega)],.sc hsc⟩,.inl ⟨z,rfl⟩⟩
        |succ j=>simp at hx
       ·rw[if_neg q2] at hrow;exact old hrow (λ_ _=>by omega))
   have hset:S.setAt ⟨r,[]⟩ (.sl 1 (rows.take lo++List.replicate len [.sc z] ++rows.drop (lo+len)))= { S with gh:=dQ S.gh r (some (.sl 1 (rows.take lo++List.replicate len [.sc z] ++rows.drop (lo+len)))) } :=by unfold St.setAt;simp only[hr,aF];rfl
   rw[hset] at hI';refine⟨_,?_,⟨hI',⟨hE.1,λt=>(hE.2 t).mono (Bt.le.refl _) hA⟩,rfl,trivial,az _,λ_ _=>⟨rfl,rfl⟩,λk hk hn=> ?_⟩⟩
   ·obtain⟨n,rfl⟩: ∃n,len=n+1:=⟨len-1,by omega⟩
    rw[Nat.mul_one] at hst;simp[Builtin.clear_,run_underlying (eY hel),zeroValue,typeInfo,hi,hz,hcz,hst]
   ·have hn':dQ S.gh r (some (.sl 1 (rows.take lo++List.replicate len [.sc z] ++rows.drop (lo+len)))) k=none:=hn;unfold dQ at hn';split at hn'
    ·cases hn'
    ·exact hn'
theorem mN.clear[dE]{Post:St->Prop}{ops:Array Oper}{o:Oper}{l:List Oper}{x:Operand}{t el:TypeId}{z:Value}(ho:o.op= .call { callee:=.builtin .clear,args:=#[x],argTypes:=#[t] })(hgd:o.guard=none)(hel:i8 P t=some el)(hze:lV P el=some [z])(hsc:gG z=true)
  {r lo len:Nat} {rows:List (List T)} (hx:opd S x= .own ⟨r,[]⟩ 1 lo len) (hr:S.gh r=some (.sl 1 rows)) (hle:lo+len<=rows.length)
  (h: ∃S1,({ S with gh:=dQ S.gh r (some (.sl 1 (rows.take lo++List.replicate len [.sc z] ++rows.drop (lo+len)))) }:St).put o.dst (.tup [])=some S1/\mN P ops l S1 Post):mN P ops (o::l) S Post:=by
 intro k w0 W btI SI bt a w Q hd hl hK
 have hko:ops.toList[k]? =some o:=by have:=congrArg (λx:List Oper=>x[0]?) hd;simpa [bh] using this
 have hko':ops[k]? =some o:=by simpa using hko
 have hd':ops.toList.drop (k+1)=l:=by rw[<-cn,hd];rfl
 have hw:=gP (ops:=ops) (o:=o) (b:=true) hl.er (by unfold gz;rw[hgd]);have hv:=dP hl.er x;rw[hx] at hv;obtain⟨w',g1,g2⟩:=rI hl.inv hl.er hel hze hsc hv hr hle o.type
 have hrun: (execOp a.eval o).run P w= .ok (.value (.tuple #[])) w':=by obtain⟨dst,op,type,pos,after,guard⟩:=o;simp only at ho;subst ho;simp[execOp,resolve,invoke,builtin,g1]
 simp only[bD,cq];unfold wpOps;rw[hko'];simp only;rw[hw,if_pos rfl];left;unfold Oper.wp;rw[hrun,Oper.upon_value];obtain⟨S1,k1,k2⟩:=h;exact k2 (k+1) hd' ((hl.left g2).put (.tup rfl (λk c u h=>by simp at h)) k1) hK
end
end
section
open Go Go.RowKit
section
variable {P:Program} {w0 w w':World} {W:Nat->Prop} {bt btn:Bt} {S Sm Sp:St} {a:Act} {ps:List dM} {ts out:List T} {m:Nat}
structure ni (S:St) (ps:List dM) (ts:List T):Prop where
 len:ts.length=ps.length
 here: ∀ (k:Nat) (p:dM),ps[k]? =some p-> ∃s rows,ts[k]? =some (.sl s rows)/\S.look p= .sl s rows
 apart: ∀ (k k':Nat) (p p':dM) (l l':List (Nat×Nat)),ps[k]? =some p->ps[k']? =some p'->p.r=p'.r->p.l++l=p'.l++l'->k=k'
def pY(ps:List dM)(q:dM):dM:=match ps[q.r]? with |some p=>⟨p.r,p.l++q.l⟩|none=>q
theorem kZ{q p:dM}(h:ps[q.r]? =some p):pY ps q=⟨p.r,p.l++q.l⟩:=by unfold pY;rw[h]
theorem ni.look(hG:ni S ps ts){q:dM}{s:Nat}{rs:List (List T)}(h: (gv ts).look q= .sl s rs): ∃p,ps[q.r]? =some p/\S.look ⟨p.r,p.l++q.l⟩= .sl s rs:=by
 unfold St.look gv at h;simp only at h;cases ht:ts[q.r]? with
 |none=>rw[ht] at h;cases h
 |some t=>
  rw[ht] at h;simp only at h;have hlt:q.r<ps.length:=by rw[<-hG.len];exact (ai.1 ht).1
  have hp:ps[q.r]? =some ps[q.r] :=aq hlt;obtain⟨s0,rows0,h1,h2⟩:=hG.here _ _ hp
  grind [St.look,T.go_append]
theorem ni.inj(hG:ni S ps ts){q q' p p':dM}(h:ps[q.r]? =some p)(h':ps[q'.r]? =some p')(he: (⟨p.r,p.l++q.l⟩:dM)=⟨p'.r,p'.l++q'.l⟩):q=q':=by
 simp only[dM.mk.injEq] at he;have hk:=hG.apart _ _ _ _ _ _ h h' he.1 he.2;obtain⟨qr,ql⟩:=q
 simp_all
def gJ(bt:Bt)(S:St)(ps:List dM)(b:Nat):Prop:=∃p∈ps,∃l s rs,S.look ⟨p.r,p.l++l⟩= .sl s rs/\0<bt.κ ⟨p.r,p.l++l⟩/\(bt.β ⟨p.r,p.l++l⟩).1=b
structure yY (S Sm:St) (ps:List dM):Prop where
 env:Sm.env=S.env
 bx:Sm.bx=S.bx
 nt:Sm.nt=S.nt
 look: ∀ (q:dM) (s:Nat) (rs:List (List T)),Sm.look q= .sl s rs->(∀p∈ps,¬js p q)/\ ∃rs0,S.look q= .sl s rs0
theorem qP[dE](hI:eh w0 W bt S w){q:dM}{s:Nat}{rs:List (List T)}(hq:S.look q= .sl s rs)(hk:0<bt.κ q)(hn: ∀p∈ps,¬js p q): ¬gJ bt S ps (bt.β q).1:=by
 rintro⟨p,hp,l,s',rs',h1,h2,h3⟩
 have:=hI.inj _ _ _ _ _ _ h1 hq h2 hk h3;subst this;exact hn p hp ⟨rfl,dy _ _⟩
theorem uE[dE](hI:eh w0 W bt S w)(hR:yY S Sm ps):mM bt Sm (λb=>b<w.heap.size/\ ¬gJ bt S ps b):=by
 refine⟨λb hb=>⟨hI.alt b hb,?_⟩,λp s rs hp hk=> ?_,λn cs hn=> ?_⟩
 ·rintro⟨p,hp,l,s',rs',h1,h2,rfl⟩
  exact hI.atr _ _ _ h1 h2 hb
 ·obtain⟨h1,rs0,h2⟩:=hR.look p s rs hp;exact⟨hI.βlt h2 hk,qP hI h2 hk h1⟩
 ·rw[hR.bx] at hn;refine⟨hI.bblt (n:=n) hn,?_⟩
  rintro⟨p,hp,l,s',rs',h1,h2,h3⟩
  exact hI.bbtr _ _ _ _ _ hn h1 h2 h3.symm
def handG(bt:Bt)(S:St)(w:World)(ps:List dM):Bt:={ bt with β:=λq=>bt.β (pY ps q),κ:=λq=>bt.κ (pY ps q),nb:=0,ng:=ps.length,A:=λb=>b<w.heap.size/\ ¬gJ bt S ps b }
theorem wo[dE](hI:eh w0 W bt S w)(hG:ni S ps ts):eh w (gJ bt S ps) (handG bt S w ps) (gv ts) w:=by
 have lk: ∀ {q:dM} {s:Nat} {rs:List (List T)},(gv ts).look q= .sl s rs-> ∃p,ps[q.r]? =some p/\pY ps q=⟨p.r,p.l++q.l⟩/\S.look (pY ps q)= .sl s rs:=by intro q s rs h;obtain⟨p,h1,h2⟩:=hG.look h;exact⟨p,h1,kZ h1,by rw[kZ h1];exact h2⟩
 exact { good:=tO.step hI λb ⟨p,_,l,s,rs,h1,h2,h3⟩=>h3 ▸ ((hI.tr _ _ _ h1).2 h2).1
         os:=rfl,tape:=rfl,output:=rfl,size:=az _,keep:=λ_ _ _=>rfl,nb:=rfl,ng:=by show ps.length=ts.length;rw[hG.len]
         bx:=λn cells h=>by cases h
         gh:=λk x h=>by have h':ts[k]? =some x:=h;exact (ai.1 h').1
         tr:=λp s rs h=>by
          obtain⟨p0,h1,h2,h3⟩:=lk h;obtain⟨g1,g2⟩:=hI.tr _ _ _ h3;refine⟨g1,λhk=>⟨.inr ⟨p0,aA h1,p.l,s,rs,by rw[<-h2];exact h3,by rw[<-h2];exact hk,by rw[<-h2];rfl⟩,?_⟩⟩;obtain⟨_,cs,e,k1,k2,k3,k4⟩:=g2 hk;refine⟨cs,e,k1,k2,k3,λi row hi=> ?_⟩;obtain⟨m1,m2⟩:=k4 i row hi;refine⟨m1,λj x hx=> ?_⟩;obtain⟨c,j1,j2⟩:=m2 j x hx;refine⟨c,j1,?_⟩
          have hsub:pY ps (p.sub i j)=(pY ps p).sub i j:=by have :ps[(p.sub i j).r]? =some p0:=h1;rw[kZ this,h2];simp[dM.sub,bk]
          have e1: (handG bt S w ps).β (p.sub i j)=bt.β ((pY ps p).sub i j):=by show bt.β _=_;rw[hsub]
          have e2: (handG bt S w ps).κ (p.sub i j)=bt.κ ((pY ps p).sub i j):=by show bt.κ _=_;rw[hsub]
          cases j2 with
          |sc h=>exact .sc h
          |dd u=>exact .dd _
          |sl hc hk ha=>exact .sl hc (by rw[e2];exact hk) (by rw[e1];exact ha)
         inj:=λp q s rs s' rs' h h' hk hk' he=>by obtain⟨p0,h1,h2,h3⟩:=lk h;obtain⟨q0,h1',h2',h3'⟩:=lk h';have:=hI.inj _ _ _ _ _ _ h3 h3' hk hk' he;rw[h2,h2'] at this;exact hG.inj h1 h1' this
         bbinj:=λn m cs cs' h=>by cases h
         bbtr:=λn cs p s rs h=>by cases h
         alt:=λb h=>h.1
         atr:=λp s rs h hk ha=>by obtain⟨p0,h1,h2,h3⟩:=lk h;exact ha.2 ⟨p0,aA h1,p.l,s,rs,by rw[<-h2];exact h3,by rw[<-h2];exact hk,by rw[<-h2];rfl⟩
         abb:=λn cs h=>by cases h }
theorem wm[dE](hI:eh w0 W bt S w)(hE:ER w bt S a)(hIm:eh w0 W bt Sm w)(hR:yY S Sm ps)(hG:ni S ps ts){o:Oper}{f x:Operand}{as:Array Operand}{tys:Array TypeId}(ho:o.op= .call { callee:=.value f,args:=as,argTypes:=tys }){xs:List Operand}{us':List TypeId}(has:as.toList=x::xs)(hlen:us'.length=xs.length)
  {g:FuncId} {caps:List AV} (hc:callee S f=some (g,caps)) {av0:AV} (hx: ∀u,VR w bt (opd S x) u->VR w (handG bt S w ps) av0 u) {m:Nat} {res:AV}
  (hS:eV P g (av0::jt P Sm us' xs caps) ts m res out) {K:Act->World->Prop} {Q:Exit->Act->World->Prop}
  (h: ∀u w' btn,eh w (gJ bt S ps) btn (gv out) w'->m<=out.length->(∀p:dM,p.r<m->btn.β p=bt.β (pY ps p)/\btn.κ p=bt.κ (pY ps p))->VR w' btn res u->K (a.put o.dst u) w'):o.wp P a w K Q:=by
 refine rD hE ho hc hS (wo hI hG) (λus hl hcc=> ?_) h;have hE':ER w bt Sm a:=⟨by rw[hR.nt];exact hE.1,by rw[hR.env];exact hE.2⟩
 obtain⟨h1,h2⟩:=rt (P:=P) (bt':=handG bt S w ps) hIm hE' (uE hI hR) rfl hlen hl hcc;have e0:as.toList.map a.eval++us=a.eval x:: (xs.map a.eval++us):=by rw[has];rfl
 grind [dP]
structure tL (S Sp:St) (ps:List dM) (m:Nat) (out:List T):Prop where
 env:Sp.env=S.env
 bx:Sp.bx=S.bx
 nb:Sp.nb=S.nb
 ng:Sp.ng=S.ng
 fz:Sp.fz=S.fz
 nt:Sp.nt=S.nt
 gh: ∀ (r:Nat) (t:T),Sp.gh r=some t-> ∃t0,S.gh r=some t0
 gone: ∀r,r<S.fz->Sp.gh r=none->S.gh r=none
 look: ∀ (q:dM) (s:Nat) (rs:List (List T)),Sp.look q= .sl s rs->(∃k p l,k<m/\ps[k]? =some p/\q=⟨p.r,p.l++l⟩/\(gv out).look ⟨k,l⟩= .sl s rs)\/
  ((∀p∈ps,¬js p q)/\ ∃rs0,S.look q= .sl s rs0/\rs.length=rs0.length/\ ∀ (i:Nat) (r:List T),rs[i]? =some r-> ∃r0,rs0[i]? =some r0/\r.length=r0.length/\
    ∀ (j:Nat) (y:T),r[j]? =some y-> ∃y0,r0[j]? =some y0/\(y=y0\/ ∃s1 ra rb,y= .sl s1 ra/\y0= .sl s1 rb/\ra.length=rb.length))
theorem tg[dE](hI:eh w0 W bt S w)(hE:ER w bt S a)(hB:tL S Sp ps m out)(hC:eh w (gJ bt S ps) btn (gv out) w')(hβ: ∀p:dM,p.r<m->btn.β p=bt.β (pY ps p)/\btn.κ p=bt.κ (pY ps p)):
  eO w0 W bt S a bt Sp w':=by
 classical
 have keep: ∀b,b<w.heap.size-> ¬gJ bt S ps b->w'.heap[b]? =w.heap[b]? :=hC.keep
 have hA: ∀b,bt.A b->w'.heap[b]? =w.heap[b]? :=λb hb=>keep b (hI.alt b hb) (by
  rintro⟨p,hp,l,s',rs',h1,h2,rfl⟩
  exact hI.atr _ _ _ h1 h2 hb)
 have hbb: ∀n cs,S.bx n=some cs->w'.heap[bt.bb n]? =w.heap[bt.bb n]? :=λn cs hn=>keep _ (hI.bblt (n:=n) hn) (by
  rintro⟨p,hp,l,s',rs',h1,h2,h3⟩
  exact hI.bbtr _ _ _ _ _ hn h1 h2 h3.symm)
 have inn: ∀ {k:Nat} {p:dM} {l:List (Nat×Nat)},k<m->ps[k]? =some p->btn.β ⟨k,l⟩=bt.β ⟨p.r,p.l++l⟩/\btn.κ ⟨k,l⟩=bt.κ ⟨p.r,p.l++l⟩:=by intro k p l hm hk;have h1:=hβ ⟨k,l⟩ hm;have h2:pY ps ⟨k,l⟩=⟨p.r,p.l++l⟩:=kZ (q:=⟨k,l⟩) hk;rw[h2] at h1;exact h1
 have sep: ∀ {c:dM} {s:Nat} {rs:List (List T)},(gv out).look c= .sl s rs->0<btn.κ c->w.heap.size<=(btn.β c).1\/gJ bt S ps (btn.β c).1:=λh hk=>((hC.tr _ _ _ h).2 hk).1
 have sepL: ∀ {c:dM} {s:Nat} {rs:List (List T)} {q:dM} {s':Nat} {rs':List (List T)},(gv out).look c= .sl s rs->0<btn.κ c->S.look q= .sl s' rs'->0<bt.κ q->(∀p∈ps,¬js p q)->(bt.β q).1≠(btn.β c).1:=by
  intro c s rs q s' rs' h hk hq hkq hn he;rcases sep h hk with h1|h1
  ·have:=hI.βlt hq hkq;omega
  ·grind [qP]
 refine⟨{ good:=hI.good,os:=hC.os.trans hI.os,tape:=hC.tape.trans hI.tape,output:=hC.output.trans hI.output,size:=aX hI.size hC.size
          keep:=λb h1 h2=>by
           rw[<-hI.keep b h1 h2];refine keep b (aM h1 hI.size) ?_
           rintro⟨p,hp,l,s',rs',g1,g2,rfl⟩
           rcases ((hI.tr _ _ _ g1).2 g2).1 with g|g
           ·omega
           ·exact h2 g
          nb:=by rw[hB.nb];exact hI.nb
          ng:=by rw[hB.ng];exact hI.ng
          bx:=λn cells hn=>by rw[hB.bx] at hn;obtain⟨h1,h2,h3⟩:=hI.bx n cells hn;exact⟨by rw[hB.nb];exact h1,h2,h3.mono (Bt.le.refl _) (by rw[hI.nb];exact h1) hA (hbb n cells hn)⟩
          gh:=λk x h=>by obtain⟨t0,h0⟩:=hB.gh k x h;rw[hB.ng];exact hI.gh _ _ h0
          tr:=λq s rs h=>by
           rcases hB.look q s rs h with ⟨k,p,l,hkm,h1,rfl,h2⟩| ⟨hn,rs0,h2,h3,h4⟩
           ·obtain⟨e1,e2⟩:=inn hkm h1;obtain⟨g1,g2⟩:=hC.tr _ _ _ h2;rw[e2] at g1 g2;refine⟨g1,λhk=>⟨?_,?_⟩⟩
            ·rcases (g2 hk).1 with g| ⟨p',hp',l',s',rs',k1,k2,k3⟩
             ·rw[e1] at g;exact .inl (aX hI.size g)
             ·rw[e1] at k3;rw[<-k3];exact ((hI.tr _ _ _ k1).2 k2).1
            ·obtain⟨_,cs,ee,k1,k2,k3,k4⟩:=g2 hk;refine⟨cs,ee,by rw[<-e1];exact k1,by rw[<-e1,<-e2];exact k2,k3,λi row hi=> ?_⟩;obtain⟨m1,m2⟩:=k4 i row hi;refine⟨m1,λj x hx=> ?_⟩;obtain⟨c,j1,j2⟩:=m2 j x hx;refine⟨c,by rw[<-e1];exact j1,?_⟩;have h5:=hβ ((⟨k,l⟩:dM).sub i j) hkm
             have h6:pY ps ((⟨k,l⟩:dM).sub i j)=(⟨p.r,p.l++l⟩:dM).sub i j:=by rw[kZ (q:=(⟨k,l⟩:dM).sub i j) h1];simp[dM.sub,bk]
             rw[h6] at h5;cases j2 with
             |sc h=>exact .sc h
             |dd u=>exact .dd _
             |sl hc hk ha=>exact .sl hc (by rw[<-h5.2];exact hk) (by rw[<-h5.1];exact ha)
           ·obtain⟨g1,g2⟩:=hI.tr _ _ _ h2;refine⟨by omega,λhk=>⟨(g2 hk).1,?_⟩⟩;obtain⟨_,cs,ee,k1,k2,k3,k4⟩:=g2 hk;refine⟨cs,ee,by grind [qP],k2,k3,λi row hi=> ?_⟩;obtain⟨r0,a1,a2,a3⟩:=h4 i row hi;obtain⟨b1,b2⟩:=k4 i r0 a1;refine⟨by omega,λj y hy=> ?_⟩;obtain⟨y0,c1,c2⟩:=a3 j y hy;obtain⟨c,d1,d2⟩:=b2 j y0 c1;refine⟨c,d1,?_⟩;rcases c2 with rfl| ⟨s1,ra,rb,rfl,rfl,hab⟩
            ·exact d2
            ·exact d2.len hab
          inj:=λq q' s rs s' rs' h h' hk hk' he=>by
           rcases hB.look q s rs h with ⟨k,p,l,hkm,h1,rfl,h2⟩| ⟨hn,rs0,h2,_,_⟩<;>rcases hB.look q' s' rs' h' with ⟨k',p',l',hkm',h1',rfl,h2'⟩| ⟨hn',rs0',h2',_,_⟩
           ·obtain⟨e1,e2⟩:=inn hkm h1;obtain⟨e1',e2'⟩:=inn hkm' h1';have:=hC.inj _ _ _ _ _ _ h2 h2' (by rw[e2];exact hk) (by rw[e2'];exact hk') (by rw[e1,e1'];exact he)
            grind
           ·grind
           ·grind
           ·exact hI.inj _ _ _ _ _ _ h2 h2' hk hk' he
          bbinj:=λn m cs cs' h h' he=>by rw[hB.bx] at h h';exact hI.bbinj _ _ _ _ h h' he
          bbtr:=λn cs q s rs h h' hk=>by
           rw[hB.bx] at h;rcases hB.look q s rs h' with ⟨k,p,l,hkm,h1,rfl,h2⟩| ⟨hn,rs0,h2,_,_⟩
           ·obtain⟨e1,e2⟩:=inn hkm h1;rcases sep h2 (by rw[e2];exact hk) with g| ⟨p',hp',l',s',rs',k1,k2,k3⟩
            ·have:=hI.bblt (n:=n) h;rw[e1] at g;omega
            ·rw[e1] at k3;rw[<-k3];exact hI.bbtr _ _ _ _ _ h k1 k2
           ·exact hI.bbtr _ _ _ _ _ h h2 hk
          alt:=λb hb=>aM (hI.alt b hb) hC.size
          atr:=λq s rs h hk hb=>by
           rcases hB.look q s rs h with ⟨k,p,l,hkm,h1,rfl,h2⟩| ⟨hn,rs0,h2,_,_⟩
           ·obtain⟨e1,e2⟩:=inn hkm h1;rcases sep h2 (by rw[e2];exact hk) with g| ⟨p',hp',l',s',rs',k1,k2,k3⟩
            ·have:=hI.alt _ hb;rw[e1] at g;omega
            ·rw[e1] at k3;rw[<-k3] at hb;exact hI.atr _ _ _ k1 k2 hb
           ·exact hI.atr _ _ _ h2 hk hb
          abb:=λn cs h=>by rw[hB.bx] at h;exact hI.abb n cs h },⟨by rw[hB.nt];exact hE.1,λx=>by rw[hB.env];exact (hE.2 x).mono (Bt.le.refl _) hA⟩,hB.fz,trivial,by rw[hB.ng];exact az _,λ_ _=>⟨rfl,rfl⟩,λk hk hn=>hB.gone k hk hn⟩
def mr(m:Nat):AV->AV
 | .own p sz lo len=>if m<=p.r then .own ⟨p.r-m,p.l⟩ sz lo len else .dead
 | .ptrT p sz i j=>if m<=p.r then .ptrT ⟨p.r-m,p.l⟩ sz i j else .dead
 | .sc v=> .sc v
 | _=> .dead
def sE(m:Nat):AV->AV
 | .agg cs=> .agg (cs.map (mr m))
 |v=>mr m v
def xP(m:Nat):AV->AV
 | .tup vs=> .tup (vs.map (sE m))
 |v=>sE m v
def uq(bt:Bt)(m:Nat):Bt:={ bt with β:=λp=>bt.β ⟨p.r+m,p.l⟩,κ:=λp=>bt.κ ⟨p.r+m,p.l⟩,ng:=bt.ng-m }
theorem BD{m:Nat}{v:AV}{u:Value}(h:VR w' btn v u):VR w' (uq btn m) (xP m v) u:=by
 have one: ∀ {v u},VR w' btn v u->VR w' (uq btn m) (mr m v) u:=by
  intro v u h;cases h with
  |sc h=>exact .sc h
  |own hp hc hk ha=>
   rename_i p sz lo len ad cap;simp only[mr];split
   ·rename_i hm;have e: (⟨p.r-m+m,p.l⟩:dM)=p:=by rw[Nat.sub_add_cancel hm]
    exact .own (by show p.r-m<btn.ng-m;omega) hc (by show _<=btn.κ ⟨p.r-m+m,p.l⟩;rw[e];exact hk) (by show _->_=some (⟨(btn.β ⟨p.r-m+m,p.l⟩).1,(btn.β ⟨p.r-m+m,p.l⟩).2+_,_⟩:Addr);rw[e];exact ha)
   ·exact .dead _
  |ptrT sz i j hp hk=>
   rename_i p;simp only[mr];split
   ·rename_i hm;have e: (⟨p.r-m+m,p.l⟩:dM)=p:=by rw[Nat.sub_add_cancel hm]
    have e2: (uq btn m).β ⟨p.r-m,p.l⟩=btn.β p:=by show btn.β ⟨p.r-m+m,p.l⟩=_;rw[e]
    rw[<-e2];exact .ptrT sz i j (by show p.r-m<btn.ng-m;omega) (by show _<btn.κ ⟨p.r-m+m,p.l⟩;rw[e];exact hk)
   ·exact .dead _
  | _=>exact .dead _
 have two: ∀ {v u},VR w' btn v u->VR w' (uq btn m) (sE m v) u:=by
  intro v u h;cases v with
  |agg cs=>
   cases h with
   |agg hl ho hr=>
    refine .agg (by simpa using hl) ho (λj c u h1 h2=> ?_)
    grind
  | _=>exact one h
 cases v with
 |tup cs=>
  cases h with
  |tup hl hr=>
   refine .tup (by simpa using hl) (λj c u h1 h2=> ?_)
   grind
 | _=>exact two h
theorem th[dE](hI:eh w0 W bt S w)(hE:ER w bt S a)(hfz:S.fz<=S.ng)(hB:tL S Sp ps m out)(hC:eh w (gJ bt S ps) btn (gv out) w')(hβ: ∀p:dM,p.r<m->btn.β p=bt.β (pY ps p)/\btn.κ p=bt.κ (pY ps p)){res:AV}{u:Value}(hv:VR w' btn res u):
  ∃bt',eO w0 W bt S a bt' (Sp.add (out.drop m)) w'/\VR w' bt' (shift S.ng (xP m res)) u:=by
 have hL:=tg hI hE hB hC hβ
 have lk: ∀ {p:dM} {s:Nat} {rs:List (List T)},(gv (out.drop m)).look p= .sl s rs->(gv out).look ⟨p.r+m,p.l⟩= .sl s rs:=by
  intro p s rs h;unfold St.look gv at h ⊢;simp only[bh] at h ⊢
  rwa [bX] at h
 have sep: ∀ {c:dM} {s:Nat} {rs:List (List T)},(gv out).look c= .sl s rs->0<btn.κ c->w.heap.size<=(btn.β c).1\/gJ bt S ps (btn.β c).1:=λh hk=>((hC.tr _ _ _ h).2 hk).1
 have hi:=hL.inv.addRoots (uq btn m) (out.drop m) (λp s rs h=>by
   obtain⟨g1,g2⟩:=hC.tr _ _ _ (lk h);refine⟨g1,λhk=>⟨?_,?_⟩⟩
   ·rcases (g2 hk).1 with g| ⟨p',hp',l',s',rs',k1,k2,k3⟩
    ·exact .inl (aX hI.size g)
    ·show w0.heap.size<=(btn.β ⟨p.r+m,p.l⟩).1\/W (btn.β ⟨p.r+m,p.l⟩).1;rw[<-k3];exact ((hI.tr _ _ _ k1).2 k2).1
   ·obtain⟨_,cs,e,k1,k2,k3,k4⟩:=g2 hk;refine⟨cs,e,k1,k2,k3,λi row hi=> ?_⟩;obtain⟨m1,m2⟩:=k4 i row hi;refine⟨m1,λj x hx=> ?_⟩;obtain⟨c,j1,j2⟩:=m2 j x hx;refine⟨c,j1,?_⟩;cases j2 with
    |sc h=>exact .sc h
    |dd u=>exact .dd _
    |sl hc hk ha=>exact .sl hc hk ha)
  (λp q s rs s' rs' h h' hk hk' he=>by
    have:=hC.inj _ _ _ _ _ _ (lk h) (lk h') hk hk' he;obtain⟨pr,pl⟩:=p
    simp_all)
  (λp s rs h hk=>by
    have hk':0<btn.κ ⟨p.r+m,p.l⟩:=hk;refine⟨λn cs hn he=> ?_,λq s' rs' hq hkq he=> ?_,λhb=> ?_⟩
    ·rw[hB.bx] at hn;have he':bt.bb n=(btn.β ⟨p.r+m,p.l⟩).1:=he;rcases sep (lk h) hk' with g| ⟨p',hp',l',s1,rs1,k1,k2,k3⟩
     ·have:=hI.bblt (n:=n) hn;omega
     ·exact hI.bbtr _ _ _ _ _ hn k1 k2 (he'.trans k3.symm)
    ·have he': (bt.β q).1=(btn.β ⟨p.r+m,p.l⟩).1:=he;rcases hB.look q s' rs' hq with ⟨k,p1,l,hlt,h1,rfl,h2⟩| ⟨hn,rs0,h2,_,_⟩
     ·have h5:=hβ ⟨k,l⟩ hlt;rw[kZ (q:=⟨k,l⟩) h1] at h5;have:=hC.inj _ _ _ _ _ _ h2 (lk h) (by rw[h5.2];exact hkq) hk' (by rw[h5.1];exact he')
      grind
     ·rcases sep (lk h) hk' with g|g
      ·have:=hI.βlt h2 hkq;omega
      grind [qP]
    ·have hb':bt.A (btn.β ⟨p.r+m,p.l⟩).1:=hb;rcases sep (lk h) hk' with g| ⟨p',hp',l',s1,rs1,k1,k2,k3⟩
     ·have:=hI.alt _ hb';omega
     ·rw[<-k3] at hb';exact hI.atr _ _ _ k1 k2 hb')
 have hle:=Bt.le_add bt (uq btn m) (out.drop m).length;have hng: (uq btn m).ng=(out.drop m).length:=by show btn.ng-_=_;rw[hC.ng,co];rfl
 refine⟨_,⟨hi,⟨hL.er.1,λt=>(hL.er.2 t).mono hle (λ_ _=>rfl)⟩,hL.fz,trivial,aX hL.ng (cK _ _),λp hp=> ?_,λr hr hn=> ?_⟩,?_⟩
 ·exact⟨hle.β p (by rw[hI.ng];omega),hle.κ p (by rw[hI.ng];omega)⟩
 ·refine hL.gone r hr ?_;have : (if Sp.ng<=r/\r<Sp.ng+(out.drop m).length then (out.drop m)[r-Sp.ng]? else Sp.gh r)=none:=hn
  rwa [hB.ng,if_neg (by omega)] at this
 ·exact tf hng (hI.ng) (BD hv)
theorem fq.handG[dE]{n0:Nat}{o:Oper}{f x:Operand}{as:Array Operand}{tys:Array TypeId}(ho:o.op= .call { callee:=.value f,args:=as,argTypes:=tys }){xs:List Operand}{us':List TypeId}(has:as.toList=x::xs)(hlen:us'.length=xs.length)
  {g:FuncId} {caps:List AV} (hc:callee S f=some (g,caps)) (hR:yY S Sm ps) (hIm: ∀ (w0:World) (W:Nat->Prop) (bt:Bt) (w:World),eh w0 W bt S w->eh w0 W bt Sm w) (hG:ni S ps ts) {av0:AV} (hx: ∀ (w:World) (bt:Bt) (u:Value),VR w bt (opd S x) u->VR w (handG bt S w ps) av0 u) {res:AV}
  (hS:eV P g (av0::jt P Sm us' xs caps) ts m res out) (hB:tL S Sp ps m out) {S1:St} (h: (Sp.add (out.drop m)).put o.dst (shift S.ng (xP m res))=some S1):fq P n0 S o S1:=by
 obtain⟨e1,e2⟩:=mw h
 have hop:f∈o.op.operands/\ ∀y∈as.toList,y∈o.op.operands:=by rw[ho];simp[Op.operands,Call.operands];intro y hy;exact .inr hy
 refine⟨λt ht=>by rw[e1];show (if o.dst=some t then _ else Sp.env t)=_;rw[if_neg ht,hB.env],λb _=>by rw[e1];exact congrFun hB.bx b,by rw[e1];exact hB.nt,by rw[e1];exact aX (Nat.le_of_eq hB.ng.symm) (cK _ _),λha=> ?_,λenv hlook w0 W btI SI bt a w K Q hl hK=> ?_⟩
 ·grind [iI,eA]
 ·have hcal:callee { S with env:=env } f=some (g,caps):=by
   rw[<-hc];unfold callee;rw[hlook f hop.1]
  have hargs:jt P { Sm with env:=env } us' xs caps=jt P Sm us' xs caps:=by
   have hmem: ∀y∈xs,opd { Sm with env:=env } y=opd Sm y:=λy hy=>by
    have h1:opd { Sm with env:=env } y=opd { S with env:=env } y:=by cases y<;>rfl
    have h2:opd Sm y=opd S y:=by cases y<;>simp[opd,hR.env]
    grind
   unfold jt
   congr 1
   ·skip
    have : ∀ (ts:List TypeId) (l:List Operand),(∀y∈l,opd { Sm with env:=env } y=opd Sm y)->List.zipWith (λt a=>fk { Sm with env:=env } (gk P 9 t) (opd { Sm with env:=env } a)) ts l=List.zipWith (λt a=>fk Sm (gk P 9 t) (opd Sm a)) ts l:=by
     intro ts l
     induction l generalizing ts with
     |nil=>intro _;cases ts<;>rfl
     |cons y l ih=>
      intro hy;cases ts with
      |nil=>rfl
      |cons t ts=>grind [List.zipWith_cons_cons,p9]
    exact this us' xs hmem
  refine wm (Sm:={ Sm with env:=env }) hl.inv hl.er ((hIm w0 W bt w (hl.inv.env S.env)).env env) ⟨rfl,hR.bx,hR.nt,hR.look⟩ ⟨hG.len,hG.here,hG.apart⟩ ho has hlen hcal (av0:=av0) (λu hu=>hx w bt u (by grind)) (by rw[hargs];exact hS) (λu w' btn hC _ hβ hv=> ?_);have hB':tL { S with env:=env } { Sp with env:=env } ps m out:=⟨rfl,hB.bx,hB.nb,hB.ng,hB.fz,hB.nt,hB.gh,hB.gone,hB.look⟩
  obtain⟨bt',g1,g2⟩:=th hl.inv hl.er hl.fzng hB' hC hβ hv;refine hK _ _ _ ((hl.left g1).put g2 ?_);refine (e2 env).trans ?_
  simp_all
theorem uo{n:Nat}{v:AV}:shift n (xP 0 v)=shift n v:=by
 have one: ∀v,fp n (mr 0 v)=fp n v:=λv=>by cases v<;>simp[mr,fp]
 have two: ∀v,ff n (sE 0 v)=ff n v:=λv=>by
  cases v with
  |agg cs=>simp[sE,ff,one]
  | _=>rfl
 cases v with
 |tup vs=>simp[xP,shift,two]
 |agg cs=>exact two (.agg cs)
 | _=>rfl
theorem pX{n k:Nat}{v:AV}(h:v.plain=true):shift n (xP k v)=v:=by
 cases v with
 |sc v=>rfl
 |tup l=>cases l with |nil=>rfl|cons a l=>cases h
 | _=>cases h
theorem uS(S:St):S.add [] =S:=by
 have : (λn=>if S.ng<=n/\n<S.ng+0 then ([]:List T)[n-S.ng]? else S.gh n)=S.gh:=by funext n;rw[if_neg (by omega)]
 simp_all [St.add]
theorem kO{L:List Nat}(hl:ts.length=L.length)(hnd:L.Nodup)(h: ∀ (k r:Nat),L[k]? =some r-> ∃s rows,ts[k]? =some (.sl s rows)/\S.gh r=some (.sl s rows)):ni S (L.map λr=>⟨r,[]⟩) ts:=by
 have nd: ∀ (k k' r:Nat),L[k]? =some r->L[k']? =some r->k=k':=by
  intro k k' r h1 h2;obtain⟨a1,a2⟩:=ai.1 h1;obtain⟨b1,b2⟩:=ai.1 h2;have hpw:=List.pairwise_iff_getElem.1 hnd;rcases Nat.lt_trichotomy k k' with hlt|e|hlt
  ·grind
  ·exact e
  ·grind
 refine⟨by simpa using hl,λk p hk=> ?_,λk k' p p' l l' hk hk' he _=> ?_⟩
 ·rw[aw] at hk;simp only[aj] at hk;obtain⟨r,hr,rfl⟩:=hk;obtain⟨s,rows,h1,h2⟩:=h k r hr;exact⟨s,rows,h1,by unfold St.look;rw[h2];rfl⟩
 grind
theorem jo(L:List Nat):yY S (dropL S L) (L.map λr=>⟨r,[]⟩):=by refine⟨rfl,rfl,rfl,λq s rs h=> ?_⟩;obtain⟨h1,h2⟩:=je h;refine⟨λp hp hu=> ?_,rs,h2⟩;obtain⟨r,hr,rfl⟩:=aG.1 hp;exact h1 (by rw[hu.1];exact hr)
theorem nP{L:List Nat}(hG:ni S (L.map λr=>⟨r,[]⟩) ts)(hlo:L.length<=out.length)(he:Sp.env=S.env)(hbx:Sp.bx=S.bx)(hnb:Sp.nb=S.nb)(hng:Sp.ng=S.ng)(hfz:Sp.fz=S.fz)(hnt:Sp.nt=S.nt)
  (h1: ∀ (k r:Nat),L[k]? =some r->Sp.gh r=out[k]?) (h2: ∀r,r∉L->Sp.gh r=S.gh r):tL S Sp (L.map λr=>⟨r,[]⟩) L.length out:=by
 have had: ∀ (r:Nat),r∈L-> ∃ (k:Nat) (t0:T),L[k]? =some r/\S.gh r=some t0:=by
  intro r hr;obtain⟨k,hk,hkr⟩:=aU hr;have hk':L[k]? =some r:=by rw[<-hkr];exact aq hk
  obtain⟨s,rows,_,g⟩:=hG.here k ⟨r,[]⟩ (by rw[aw,hk'];rfl);unfold St.look at g;cases hg:S.gh r with
  |none=>simp only[hg] at g;cases g
  |some t0=>exact⟨k,t0,hk',rfl⟩
 refine⟨he,hbx,hnb,hng,hfz,hnt,λr t ht=> ?_,λr _ hr=> ?_,λq s rs hq=> ?_⟩
 ·grind
 ·grind
 ·by_cases hqL:q.r∈L
  ·obtain⟨k,t0,g,_⟩:=had q.r hqL;left;refine⟨k,⟨q.r,[]⟩,q.l,(ai.1 g).1,by rw[aw,g];rfl,rfl,?_⟩
   grind [St.look,gv]
  ·right
   have hq':S.look q= .sl s rs:=by unfold St.look at hq ⊢;rw[h2 q.r hqL] at hq;exact hq
   refine⟨λp hp hu=> ?_,rs,hq',rfl,λi r hi=>⟨r,hi,rfl,λj y hy=>⟨y,hy,.inl rfl⟩⟩⟩;obtain⟨r,hr,rfl⟩:=aG.1 hp;exact hqL (by rw[hu.1];exact hr)
theorem vQ{L:List Nat}(hfz: ∀r∈L,S.fz<=r):tL S (dropL S L) (L.map λr=>⟨r,[]⟩) 0 out:=by
 refine⟨rfl,rfl,rfl,rfl,rfl,rfl,λr t ht=> ?_,λr hr hn=> ?_,λq s rs hq=> ?_⟩
 ·have ht: (if L.contains r then none else S.gh r)=some t:=ht
  grind
 ·have hn: (if L.contains r then none else S.gh r)=none:=hn
  grind
 ·obtain⟨h1,h2⟩:=(jo L).look q s rs hq;obtain⟨_,h3⟩:=je hq
  grind
theorem xC{p:dM}{s:Nat}{rows:List (List T)}(h:S.look p= .sl s rows):ni S [p] [.sl s rows] :=by
 refine⟨rfl,λk p' hk=> ?_,λk k' p1 p2 l l' hk hk' _ _=> ?_⟩
 all_goals grind
theorem w9{p:dM}{s:Nat}{rows rows':List (List T)}(hp:S.look p= .sl s rows)(hl:rows'.length=rows.length):tL S (S.setAt p (.sl s rows')) [p] 1 [.sl s rows'] :=by
 obtain⟨t,ht,htp⟩: ∃t,S.gh p.r=some t/\t.go p.l= .sl s rows:=by grind [St.look]
 refine⟨rfl,rfl,rfl,rfl,rfl,rfl,λr x hx=> ?_,λr _ hr=> ?_,λq s' rs h=> ?_⟩
 ·have hx':dQ S.gh p.r ((S.gh p.r).map λt=>t.put p.l (.sl s rows')) r=some x:=hx
  grind [dQ]
 ·have hr':dQ S.gh p.r ((S.gh p.r).map λt=>t.put p.l (.sl s rows')) r=none:=hr
  grind [dQ]
 ·rw[ir] at h;by_cases hqr:q.r=p.r
  ·rw[if_pos hqr,ht] at h;simp only at h;rcases T.put_spec (.sl s rows') p.l t (.inl (by rw[htp];simp)) q.l s' rs h with ⟨m',hm,hgo⟩| ⟨rs0,g1,g2,g3,g4⟩
   ·left;refine⟨0,p,m',cz,rfl,?_,?_⟩
    ·obtain⟨qr,ql⟩:=q;simp only at hqr hm;rw[hqr,hm]
    ·unfold St.look gv;exact hgo
   ·right;refine⟨λp' hp' hu=> ?_,rs0,by unfold St.look;rw[hqr,ht];exact g1,g2,λi r h1=> ?_⟩
    ·rw[aL.1 hp'] at hu;obtain⟨_,m,b⟩:=hu;exact g3 m b.symm
    ·obtain⟨r0,k1,k2,k3⟩:=g4 i r h1;refine⟨r0,k1,k2,λj y h2=> ?_⟩;obtain⟨y0,j1,j2⟩:=k3 j y h2;refine⟨y0,j1,?_⟩;rcases j2 with rfl| ⟨hml,rfl⟩|h3
     ·exact .inl rfl
     ·refine .inr ⟨s,rows',rows,rfl,?_,hl⟩
      grind [T.go_append,T.go,T.cell]
     ·exact .inr h3
  ·rw[if_neg hqr] at h;right;refine⟨λp' hp' hu=> ?_,rs,h,rfl,λi r h1=>⟨r,h1,rfl,λj y h2=>⟨y,h2,.inl rfl⟩⟩⟩;rw[aL.1 hp'] at hu;exact hqr hu.1
end
end
end Go.Proofs.YtkghndikalnipaaGreat.En
