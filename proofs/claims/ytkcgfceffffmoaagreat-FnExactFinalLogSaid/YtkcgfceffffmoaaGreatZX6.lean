import Derived.Test.YtkcgfceffffmoaaGreatZX5
namespace Go.Proofs.YtkcgfceffffmoaaGreat.En
open Go
inductive Cl where
 | c (x:C)
 | em
 | own (p:ap) (sz lo len:Nat) (w:Bool)
 | pro (cs:List C)
 | ptrB (n j:Nat)
 | ptrT (p:ap) (sz i j:Nat)
 | dead
 deriving Inhabited
inductive V1 where
 | cl (x:Cl)
 | agg (cs:List Cl)
 | fn (f:FuncId) (cs:List Cl)
 deriving Inhabited
inductive V where
 | v (x:V1)
 | tup (l:List V1)
 deriving Inhabited
structure bR where
 t:Ty
 l:List t.D
 hole:Option (Nat×Nat)
structure TS where
 env:List (Nat×V)
 bx:List (List Cl)
 gh:List (Option bR)
 fz:Nat
 nt:Nat
structure TI where
 ty:Ty
 el:Nat
 fds:List (Nat×Nat×Bool)
 bytes:Nat
abbrev gF:=List (Nat×TI)
@[reducible] def V.c (x:C):V:= .v (.cl (.c x))
@[reducible] def V.sc (x:Value):V:= .v (.cl (.c (.sc x)))
@[reducible] def V.dead:V:= .v (.cl .dead)
def jT:List (Nat×V)→Nat→V
 | [],_=>V.dead
 | (t,v)::l,u=>bif Nat.beq t u then v else jT l u
def iz {α:Type}:List α→Nat→Option α
 | [],_=>none
 | a::l,n=>bif Nat.beq n 0 then some a else iz l (n - 1)
def cC (v:Value):Cl:=bif c6 v then .c (.sc v) else match v with | .slice none 0 0=> .em | _=> .dead
def cV:Value→V
 | .agg cs=>bif cs.toList.all Value.oneCell' then .v (.agg (cs.toList.map cC)) else V.dead
 | v=> .v (.cl (cC v))
def TS.opd (S:TS):Operand→V
 | .tmp t=>jT S.env t
 | .const v=>cV v
 | .func f=>V.sc (.func (.func f) #[] #[])
 | .global _=>V.dead
def V1.cells:V1→List Cl
 | .cl x=> [x]
 | .agg cs=>cs
 | .fn _ _=> [.dead]
def C.flatB:C→Bool | .sc _=>true | _=>false
def Ty.flatB (t:Ty):Bool:=t.csh.all (·.isNone)
section
variable {ρ:Type}
def br {α:Type} (b:Bool) (x y:α):α:=cond b x y
def aw {α:Type} (c:Prop) [Decidable c] (x y:α):α:=if c then x else y
def C.ro:C→Cl:=Cl.c
def Ty.ag:Ty→Bool | .st _=>true | _=>false
def ka:Value→Value→Option Bool
 | .int _ a, .int _ b=>some (a==b)
 | .bool a, .bool b=>some (a==b)
 | _,_=>none
def hR:List Cl→List Cl→Option Bool
 | [],[] =>some true
 | .c (.sc a)::l, .c (.sc b)::m=>match ka a b,hR l m with
   | some x,some y=>some (x&&y)
   | _,_=>none
 | _,_=>none
def jk:List Value→List Cl→Bool
 | [],[] =>true
 | .int k _::zs, .c (.sc (.int k' _))::cs=>bif decide (k=k') then jk zs cs else false
 | .bool _::zs, .c (.sc (.bool _))::cs=>jk zs cs
 | _,_=>false
end
end Go.Proofs.YtkcgfceffffmoaaGreat.En
namespace Go.Proofs.YtkcgfceffffmoaaGreat.En
open Go
def C.av:C→AV
 | .sc v=> .sc v
 | .ls t l=> .ro t.width (l.map t.row)
def Cl.av:Cl→AV
 | .c x=>x.av
 | .em=> .em
 | .own p sz lo len _=> .own p sz lo len
 | .pro cs=> .pro (cs.map C.tree)
 | .ptrB n j=> .ptrB n j
 | .ptrT p sz i j=> .ptrT p sz i j
 | .dead=> .dead
def V1.av:V1→AV
 | .cl x=>x.av
 | .agg cs=> .agg (cs.map Cl.av)
 | .fn f cs=> .fn f (cs.map Cl.av)
def V.av:V→AV
 | .v x=>x.av
 | .tup l=> .tup (l.map V1.av)
def bR.tree (x:bR):T:=match x.hole with
 | none=> .sl x.t.width (x.l.map x.t.row)
 | some (i,j)=> .sl x.t.width ((x.l.map x.t.row).set i (((x.l.map x.t.row).getD i []).set j .dd))
def cf (G:List (Option bR)) (r:Nat):Option bR:=(iz G r).getD none
def TS.st (S:TS):St where
 env:=fun t=>(jT S.env t).av
 bx:=fun n=>(iz S.bx n).map fun cs=>cs.map Cl.av
 gh:=fun r=>(cf S.gh r).map bR.tree
 nb:=S.bx.length
 ng:=S.gh.length
 fz:=S.fz
 orc:=none
 nt:=S.nt
structure jl where
 f:FuncId→List V1→(ρ:Type)→(V→List bR→Option ρ)→Option ρ
 kd:FuncId→Nat
instance:CoeFun jl fun _=>FuncId→List V1→(ρ:Type)→(V→List bR→Option ρ)→Option ρ:=⟨jl.f⟩
def gr:Nat:=1048576
def kb:Nat:=gr+gr
def ks (g:Nat):Nat:=g+gr
def kt (g:Nat):Nat:=g+kb
def fh {α:Type}:List α→Nat→α→List α
 | [],_,_=> []
 | a::l,n,x=>bif Nat.beq n 0 then x::l else a::fh l (n - 1) x
def hT (r j:Nat):Cl→Cl
 | .own p sz lo len w=>match p.l with | (_,j')::_=>bif Nat.beq p.r r&&Nat.beq j j' then .dead else .own p sz lo len w | [] => .own p sz lo len w
 | .ptrT p sz a b=>match p.l with | (_,j')::_=>bif Nat.beq p.r r&&Nat.beq j j' then .dead else .ptrT p sz a b | [] => .ptrT p sz a b
 | c=>c
def iX (r j:Nat):V1→V1
 | .cl c=> .cl (hT r j c)
 | .agg cs=> .agg (cs.map (hT r j))
 | .fn f cs=> .fn f (cs.map (hT r j))
def ke (r j:Nat):V→V
 | .v x=> .v (iX r j x)
 | .tup vs=> .tup (vs.map (iX r j))
def TS.kill (S:TS) (r j:Nat):TS:= { S with env:=S.env.map fun x=>(x.1,ke r j x.2),bx:=S.bx.map fun cs=>cs.map (hT r j) }
section
variable {ρ:Type}
inductive kG where
 | nest (r i j sz lo len:Nat)
 | agg (cs:List Cl)
def gone:Nat→List (Option bR)→List (Option bR)→List Nat
 | n,some _::l,none::m=>n::gone (n+1) l m
 | n,_::l,_::m=>gone (n+1) l m
 | _,_,_=> []
def cx:Code→Nat
 | .region id _ _=>id
 | .seq a _=>cx a
 | .block _ c=>cx c
 | .loop c=>cx c
 | _=>0
abbrev jy:=Nat→TS→(ρ:Type)→(X→TS→Option ρ)→Option ρ
def ku:List V1→V
 | [v] => .v v
 | vs=> .tup vs
def jm:List C→Nat→List Cl
 | [],_=> []
 | .sc v::r,n=> .c (.sc v)::jm r n
 | .ls t l::r,n=> .own ⟨n,[]⟩ t.width 0 l.length true::jm r (n+1)
def ij:List C→List bR
 | [] => []
 | .sc _::r=>ij r
 | .ls t l::r=>⟨t,l,none⟩::ij r
def kf (t:Ty) (x:t.D) (n:Nat):V1:=bif t.ag then .agg (jm (t.flat x) n) else match jm (t.flat x) n with | [c] => .cl c | _=> .cl .dead
def jz:Nat→List ((t:Ty)×t.D)→List V1
 | _,[] => []
 | n,⟨t,x⟩::r=>kf t x n::jz (n+(ij (t.flat x)).length) r
def jA:List ((t:Ty)×t.D)→List bR
 | [] => []
 | ⟨t,x⟩::r=>ij (t.flat x)++jA r
def ret (l:List ((t:Ty)×t.D)) (κ:V→List bR→Option ρ):Option ρ:=κ (ku (jz 0 l)) (jA l)
end
def kn (t:Ty) (x:t.D):V1:=bif t.ag then .agg ((t.flat x).map .c) else match (t.flat x).map Cl.c with | [c] => .cl c | _=> .cl .dead
end Go.Proofs.YtkcgfceffffmoaaGreat.En
namespace Go.Proofs.YtkcgfceffffmoaaGreat.En
open Go
theorem dN {α:Type}: ∀ (l:List α) (n:Nat),iz l n=l[n]?
 | [],n=>by simp [iz]
 | a::l,0=>by simp [iz]
 | a::l,n+1=>by show iz l n=_; rw [dN l]; simp
theorem dW {α:Type}: ∀ (l:List α) (n:Nat) (x:α),fh l n x=l.set n x
 | [],n,x=>by simp [fh]
 | a::l,0,x=>by simp [fh]
 | a::l,n+1,x=>by show a::fh l n x=_; rw [dW l]; simp
def Cl.ok (G:List (Option bR)):Cl→Prop
 | .own p _ lo len w=>p.r < G.length∧(w=true→p.l= [] ∧lo=0∧ ∀ tr,cf G p.r=some tr→len=tr.l.length)
 | .ptrT p _ _ _=>p.r < G.length
 | _=>True
def V1.ok (G:List (Option bR)):V1→Prop
 | .cl c=>c.ok G
 | .agg cs=> ∀ c∈cs,c.ok G
 | .fn _ cs=> ∀ c∈cs,c.ok G
def V.ok (G:List (Option bR)):V→Prop
 | .v x=>x.ok G
 | .tup l=> ∀ x∈l,x.ok G
structure TS.ok (S:TS):Prop where
 env: ∀ x∈S.env,x.2.ok S.gh
 bx: ∀ cs∈S.bx,∀ c∈cs,c.ok S.gh
def gQ (G G':List (Option bR)):Prop:=G.length≤G'.length∧ ∀ r tr',r < G.length→cf G' r=some tr'→ ∃ tr,cf G r=some tr∧tr.l.length=tr'.l.length
theorem gQ.refl (G:List (Option bR)):gQ G G:=⟨Nat.le_refl _,fun _ tr _ h=>⟨tr,h,rfl⟩⟩
theorem gQ.trans {G H K:List (Option bR)} (h:gQ G H) (k:gQ H K):gQ G K:=⟨Nat.le_trans h.1 k.1,fun r tr hr hK=>by
 obtain⟨t1,h1,h2⟩:=k.2 r tr (Nat.lt_of_lt_of_le hr h.1) hK
 obtain⟨t2,h3,h4⟩:=h.2 r t1 hr h1
 exact⟨t2,h3,h4.trans h2⟩⟩
theorem Cl.ok_mono {G G':List (Option bR)} (h:gQ G G') {c:Cl} (hc:c.ok G):c.ok G':=by
 cases c with
 | own p sz lo len w=>
   obtain⟨h1,h2⟩:=hc
   refine⟨Nat.lt_of_lt_of_le h1 h.1,fun hw=> ?_⟩
   obtain⟨a,b,c⟩:=h2 hw
   refine⟨a,b,fun tr htr=> ?_⟩
   obtain⟨tr0,k1,k2⟩:=h.2 _ tr h1 htr
   rw [c tr0 k1,k2]
 | ptrT p sz i j=>exact Nat.lt_of_lt_of_le hc h.1
 | _=>trivial
theorem V1.ok_mono {G G':List (Option bR)} (h:gQ G G') {v:V1} (hv:v.ok G):v.ok G':=by
 cases v with
 | cl c=>exact Cl.ok_mono h hv
 | agg cs=>exact fun c hc=>Cl.ok_mono h (hv c hc)
 | fn f cs=>exact fun c hc=>Cl.ok_mono h (hv c hc)
theorem V.ok_mono {G G':List (Option bR)} (h:gQ G G') {v:V} (hv:v.ok G):v.ok G':=by
 cases v with
 | v x=>exact V1.ok_mono h hv
 | tup l=>exact fun x hx=>V1.ok_mono h (hv x hx)
section
variable {ρ:Type}
theorem bR.look {G:List (Option bR)} {r:Nat} {tr:bR} (h:iz G r=some (some tr)):cf G r=some tr:=by
 unfold cf
 rw [h]
 rfl
end
end Go.Proofs.YtkcgfceffffmoaaGreat.En
namespace Go.Proofs.YtkcgfceffffmoaaGreat.En
open Go
def Ty.shs (t:Ty):List Nat:=t.csh.map fun | some e=>e.width | none=>0
structure TI.ok (P:Program) (t:TypeId) (ti:TI):Prop where
 ag:i7 P t=some ti.ty.ag
 cells:P.cellsOf t=ti.ty.width
 sh:fq P 9 t=ti.ty.shs
 ze:gG P t=some ti.ty.zvs
 fd: ∀ k,jZ P t k=iz ti.fds k
 pl:ti.ty.ag=true→ki P t=some (ti.fds.map fun x=>(x.1,x.2.1))
 el: ∀ e,ti.ty= .ls e→ ∃ el,fC P t=some el∧P.cellsOf el=e.width∧P.bytesOf el=ti.el∧0 < ti.el∧fq P 9 el=e.shs∧gG P el=some e.zvs
 bool:ti.ty= .b→P.underlying t=some .bool
 gu:ti.ty.ag=true→ti.ty.flatB=true→P.eqGuardType P.depth t=false
 eq:ti.ty.ag=true→ ∀ (a b:List Cl) (r:Bool) (xs ys:List Value),jk ti.ty.zvs a=true→jk ti.ty.zvs b=true→hR a b=some r→a=xs.map (fun x=> .c (.sc x))→b=ys.map (fun x=> .c (.sc x))→cP P (Op.equal t (.agg xs.toArray) (.agg ys.toArray))=some r
 str:jF P t=(match ti.ty with | .s=>true | _=>false)
 int: ∀ k,ti.ty= .i k→P.underlying t=some (.int k)
section
variable {ρ:Type} {P:Program} {Θ:gF} {S:TS}
end
end Go.Proofs.YtkcgfceffffmoaaGreat.En
namespace Go.Proofs.YtkcgfceffffmoaaGreat.En
open Go
section
variable {ρ:Type} {P:Program} {Θ:gF} {S:TS}
end
end Go.Proofs.YtkcgfceffffmoaaGreat.En
namespace Go.Proofs.YtkcgfceffffmoaaGreat.En
open Go
section
variable {ρ:Type} {P:Program} {Θ:gF} {S:TS} {D:eI}
end
end Go.Proofs.YtkcgfceffffmoaaGreat.En
namespace Go.Proofs.YtkcgfceffffmoaaGreat.En
open Go
theorem ik {G:List (Option bR)} {r:Nat} (h:G.length≤r):cf G r=none:=by
 unfold cf
 rw [dN,List.getElem?_eq_none h]
 rfl
theorem hU {G:List (Option bR)} {r:Nat} {tr:bR} (h:cf G r=some tr):r < G.length:=by
 rcases Nat.lt_or_ge r G.length with h' | h'
 ·exact h'
 ·rw [ik h'] at h; cases h
theorem eU {G:List (Option bR)} {x:Option bR} (q r:Nat) (hq:q < G.length∨x=none):cf (fh G q x) r=if r=q then x else cf G r:=by
 unfold cf
 rw [dN,dN,dW,List.getElem?_set]
 by_cases h:q=r
 ·subst h
  simp only [if_true]
  rcases hq with hq | rfl
  ·rw [if_pos hq]; rfl
  ·split <;> rfl
 ·rw [if_neg h,if_neg (fun e=>h e.symm)]
theorem gQ.gone (G:List (Option bR)) (q:Nat):gQ G (fh G q none):=⟨by rw [dW]; simp,fun r tr hr h=>by
 rw [eU q r (.inr rfl)] at h
 split at h
 ·cases h
 ·exact⟨tr,h,rfl⟩⟩
theorem gQ.put {G:List (Option bR)} {q:Nat} {tr tr':bR} (h:cf G q=some tr) (hl:tr'.l.length=tr.l.length):gQ G (fh G q (some tr')):=⟨by rw [dW]; simp,fun r t hr h'=>by
 rw [eU q r (.inl (hU h))] at h'
 split at h'
 ·rename_i hq
  subst hq
  cases h'
  exact⟨tr,h,hl.symm⟩
 ·exact⟨t,h',rfl⟩⟩
def iY (P:Program) (g:FuncId) (args:List V1) (b:Bool) (res:V) (out:List bR):Prop:=
 ∃ (t:Ty) (x:t.D) (as:List V1),args=kn t x::as∧jR P g ((kf t x 0).av::as.map V1.av) ((ij (t.flat x)).map bR.tree) (bif b then (ij (t.flat x)).length else 0) res.av (out.map bR.tree)
structure kC (P:Program) (f:Nat) (args:List V1) (res:V) (out:List bR):Prop where
 fn:f < gr→iK P f (args.map V1.av) [] res.av (out.map bR.tree)
 io: ∀ g,f=ks g→g < gr→iY P g args true res out
 mv: ∀ g,f=kt g→iY P g args false res out
section
variable {ρ:Type} {P:Program} {Θ:gF} {S:TS}
end
end Go.Proofs.YtkcgfceffffmoaaGreat.En
namespace Go.Proofs.YtkcgfceffffmoaaGreat.En
open Go
open Classical in
section
variable {ρ:Type} {P:Program} {Θ:gF} {S:TS} {Y:jl}
end
end Go.Proofs.YtkcgfceffffmoaaGreat.En
namespace Go.Proofs.YtkcgfceffffmoaaGreat.En
open Go
section
variable {ρ:Type} {P:Program} {Θ:gF} {S:TS}
end
end Go.Proofs.YtkcgfceffffmoaaGreat.En
