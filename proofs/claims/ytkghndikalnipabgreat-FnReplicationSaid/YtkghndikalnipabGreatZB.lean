/- Printed by a program: the walk. -/
import Derived.Test.YtkghndikalnipabGreatZTh
set_option linter.unusedSimpArgs false
set_option linter.unusedVariables false
namespace Go.Proofs.YtkghndikalnipabGreat.En
open Go
abbrev EI:=@Int.natCast_nonneg
abbrev EJ:=@Int.ofNat_lt
abbrev EK:=@Int.lt_irrefl
abbrev EL:=@List.length_set
abbrev EM:=@List.take_length
abbrev EN:=@List.pairwise_iff_getElem
abbrev EO:=@List.take_add_one
abbrev EP:=@List.getElem?_set_self
abbrev ES:=@List.getElem?_set_ne
abbrev ET:=@Nat.le_succ_of_le
abbrev EU:=@Bool.not_false
abbrev EV:=@List.filter_append
abbrev EW:=@List.pairwise_append
abbrev EX:=@List.pairwise_singleton
abbrev EY:=@List.pairwise_cons
abbrev EZ:=@List.mem_filter
abbrev E0:=@List.getElem_take
abbrev Fa:=@Nat.le_of_eq
abbrev Fb:=@Nat.sub_zero
abbrev Fc:=@Sum.elim_inr
abbrev Fd:=@List.length_filter_le
abbrev Fe:=@Sum.elim_inl
abbrev Ff:=@List.flatten_append
abbrev Fg:=@Int.toNat_zero
noncomputable section
abbrev KB:List Ty:=[.i .i64]
abbrev KG:List Ty:=[.ls (.i .i64)]
abbrev Oc:List Ty:=[.st .cluster,.i .i64]
abbrev Xb:List Ty:=[.st .cluster]
abbrev Xc:List Ty:=[.ls (.st .entry)]
abbrev Ye:List Ty:=[.st .config,.b]
abbrev YY:List Ty:=[.st .server]
abbrev YZ:List Ty:=[.st .config]
abbrev Y0:List Ty:=[.st .masterLog]
abbrev Y1:List Ty:=[.st .cluster,.b]
abbrev Yc:List Ty:=[.i .i64,.ls (.st .entry)]
abbrev Yd:List Ty:=[.ls (.st .entry),.b]
abbrev ZI:List Ty:=[.st .cluster,.st .reply]
abbrev LD:List ju:=[.ty (.st .cluster),.ty (.i .i64)]
abbrev QI:List ju:=[.ty (.ls (.st .entry))]
abbrev Rz:List ju:=[.ty (.st .cluster),.ty (.i .i64),.ty (.i .i64)]
abbrev Tn:List ju:=[.ty (.st .cluster)]
abbrev Uz:List ju:=[.ty (.i .i64)]
abbrev UA:List ju:=[.ty (.ls (.i .i64)),.ty (.ls (.i .i64))]
abbrev V5:List ju:=[.ty (.ls (.i .i64))]
abbrev V6:List ju:=[.ty (.st .config)]
abbrev V7:List ju:=[.ty (.st .server),.ty (.i .i64)]
abbrev Xa:List ju:=[.ty (.st .masterLog)]
abbrev Vc:List ju:=[.ty (.st .server)]
abbrev Vd:List ju:=[.ty (.ls (.i .i64)),.ty (.i .i64)]
abbrev Wv:List ju:=[.ty (.st .op)]
abbrev Ww:List ju:=[.ty (.ls (.st .entry)),.ty (.ls (.st .entry))]
abbrev XW:List ju:=[.ty (.i .i64),.ty (.i .i64),.ty (.i .i64)]
abbrev XX:List ju:=[.ty (.ls (.st .place))]
abbrev XY:List ju:=[.ty (.st .lease)]
abbrev XZ:List ju:=[.ty (.st .masterLog),.ty (.i .i64)]
abbrev X0:List ju:=[.ty (.ls (.i .i64)),.ty (.i .i64),.ty (.i .i64)]
abbrev X1:List ju:=[.ty (.ls (.st .entry)),.ty (.i .i64)]
abbrev Zj:List ju:=[.ty (.st .config),.ty (.st .config)]
abbrev Zk:List ju:=[.ty (.st .config),.ty (.i .i64)]
abbrev Zl:List ju:=[.ty (.ls (.st .entry)),.ty (.i .i64),.ty (.i .i64)]
abbrev Zm:List ju:=[.ty (.st .machine),.ty (.i .i64)]
abbrev Zn:List ju:=[.ty (.st .cluster),.ty (.i .i64),.ty (.st .op)]
abbrev Zo:List ju:=[.ty (.i .i64),.ty (.ls (.st .entry))]
abbrev Zp:List ju:=[.ty (.st .cluster),.ty (.st .event)]
abbrev Zq:List ju:=[.ty (.ls (.i .i64)),.fc 207]
abbrev Zr:List ju:=[.ty (.i .i64),.ty (.i .i64)]
abbrev Zs:List ju:=[.ty (.ls (.st .place)),.fc 209]
abbrev LF:Type:=(Int×Unit×Unit×Unit×Int×Int×Int×Int×Int×Unit×Unit)
abbrev M1:Type:=(Int×List qQ×List Int×List om×Int×Int×Int×Int×Int×List vB×Unit)
abbrev Sz:Type:=(Unit×Int×Unit)
abbrev UB:Type:=(Int×Int×Unit×Unit×Unit)
abbrev V8:Type:=(Unit×Unit×Int×Unit)
abbrev Yb:Type:=(Unit×Unit×Unit)
abbrev YX:Type:=(Unit×Unit×Unit×Int×Unit)
abbrev Z9:Type:=(List om×Int×Unit)
abbrev aaa:Type:=(List Int×List Int×Unit×Int×Unit)
abbrev aab:Type:=(List Int×List nY×Unit)
abbrev X9:Type:=(Int×Unit×Unit×Unit×Bool×Int×Unit)
abbrev Ya:Type:=(Unit×Unit×Unit×Unit×Unit×Unit×Int×Unit)
abbrev Zy:Type:=(Int×Unit×List Int×List om×Int×Int×Int×Int×Int×List vB×Unit)
abbrev Zz:Type:=(List Int×Int×Unit)
abbrev ZA:Type:=(List Int×Int×Int×Unit)
abbrev ZB:Type:=(List sf×Int×Unit)
abbrev ZC:Type:=(List Int×Unit×Int×Unit)
abbrev ZD:Type:=(Unit×Int×Unit×Int×Unit)
abbrev ZE:Type:=(List sf×List sf×Int×Unit)
abbrev ZF:Type:=(Bool×Bool×Int×Int×Int×Int×List Int×List Int×Int×List sf×Int×List sf×Unit)
abbrev ZG:Type:=(List Int×List Int×Int×Int×Unit)
abbrev ZH:Type:=(List sf×List sf×Int×Int×Unit)
abbrev J3:Nat×mu:=(1,.cl (.ptr 0 0))
abbrev KY:Nat×mu:=(1,.cl (.int .i64))
abbrev Ms:Nat×mu:=(5,.cl (.int .i64))
abbrev MH:Nat×mu:=(4,.cl (.int .i64))
abbrev MZ:Nat×mu:=(2,.cl (.ptr 0 0))
abbrev NS:Nat×mu:=(3,.cl (.int .i64))
abbrev OJ:Nat×mu:=(0,.cl (.ro (.i .i64)))
abbrev Pa:Nat×mu:=(2,.cl (.dead))
abbrev Pb:Nat×mu:=(0,.cl (.ro (.st .entry)))
abbrev Qj:Nat×mu:=(2,.cl (.bl))
abbrev MP:Nat×mu:=(6,.cl (.int .i64))
abbrev MQ:Nat×mu:=(7,.cl (.int .i64))
abbrev Nv:Nat×mu:=(2,.cl (.ptr 1 0))
abbrev Nw:Nat×mu:=(5,.cl (.own 0 (.i .i64)))
abbrev Nx:Nat×mu:=(6,.cl (.ptr 1 0))
abbrev OH:Nat×mu:=(4,.cl (.ptr 0 0))
abbrev OI:Nat×mu:=(0,.cl (.own 0 (.i .i64)))
abbrev Po:Nat×mu:=(12,.cl (.int .i64))
abbrev Qe:Nat×mu:=(4,.cl (.dead))
abbrev Qf:Nat×mu:=(1,.cl (.ro (.i .i64)))
abbrev Qg:Nat×mu:=(2,.cl (.int .i64))
abbrev Qh:Nat×mu:=(4,.cl (.ptr 1 0))
abbrev Qi:Nat×mu:=(8,.cl (.bl))
abbrev Q9:Nat×mu:=(0,.cl (.ro (.st .place)))
abbrev Ra:Nat×mu:=(3,.cl (.ptr 1 0))
abbrev Rb:Nat×mu:=(3,.cl (.own 0 (.i .i64)))
abbrev Rc:Nat×mu:=(8,.cl (.int .i64))
abbrev Rd:Nat×mu:=(4,.cl (.ptr 2 0))
abbrev Re:Nat×mu:=(5,.cl (.ptr 3 0))
abbrev Su:Nat×mu:=(0,.cl (.pt 0 3))
abbrev Sv:Nat×mu:=(4,.cl (.bl))
abbrev Sw:Nat×mu:=(3,.cl (.ptr 0 0))
abbrev Sx:Nat×mu:=(7,.cl (.own 0 (.st .entry)))
abbrev Sy:Nat×mu:=(9,.cl (.own 1 (.i .i64)))
abbrev TK:Nat×mu:=(9,.cl (.bl))
abbrev TL:Nat×mu:=(11,.cl (.int .i64))
abbrev TM:Nat×mu:=(10,.cl (.int .i64))
abbrev Ve:Nat×mu:=(3,.cl (.ptr 2 0))
abbrev Vf:Nat×mu:=(7,.cl (.own 0 (.i .i64)))
abbrev Vg:Nat×mu:=(7,.cl (.bl))
abbrev Wx:Nat×mu:=(6,.cl (.own 0 (.i .i64)))
abbrev Wy:Nat×mu:=(8,.cl (.own 0 (.i .i64)))
abbrev Wz:Nat×mu:=(6,.cl (.own 0 (.st .entry)))
abbrev WA:Nat×mu:=(3,.cl (.str))
abbrev WB:Nat×mu:=(6,.cl (.ptr 2 0))
abbrev WC:Nat×mu:=(3,.cl (.own 1 (.i .i64)))
abbrev WD:Nat×mu:=(3,.cl (.own 1 (.st .entry)))
abbrev X2:Nat×mu:=(6,.cl (.dead))
abbrev X3:Nat×mu:=(7,.cl (.ptr 3 0))
abbrev X4:Nat×mu:=(9,.cl (.own 0 (.i .i64)))
abbrev X5:Nat×mu:=(1,.cl (.ro (.st .entry)))
abbrev X6:Nat×mu:=(8,.cl (.ptr 1 0))
abbrev X7:Nat×mu:=(13,.cl (.int .i64))
abbrev X8:Nat×mu:=(5,.cl (.ptr 0 0))
abbrev Zt:Nat×mu:=(3,.cl (.own 1 (.st .place)))
abbrev Zu:Nat×mu:=(5,.cl (.own 1 (.st .event)))
abbrev Zv:Nat×mu:=(11,.cl (.own 1 (.i .i64)))
abbrev Zw:Nat×mu:=(10,.cl (.own 0 (.i .i64)))
abbrev Zx:Nat×mu:=(7,.cl (.own 0 (.st .reply)))
abbrev Ia:List Ty:=[.i .i64]
abbrev Vh:List Ty:=[.i .i64,.st .server,.i .i64,.st .config,.st .place]
abbrev Vi:List Ty:=[.st .server,.i .i64,.st .config,.st .place]
abbrev Wc:List Ty:=[.st .entry,.i .i64,.st .server,.i .i64,.st .config,.st .place,.i .i64,.i .i64]
abbrev Y2:List Ty:=[.st .config]
abbrev Y3:List Ty:=[.st .server]
abbrev Y4:List Ty:=[.i .i64,.st .session]
abbrev Y5:List Ty:=[.st .cur,.i .i64]
abbrev Y6:List Ty:=[.st .cur,.st .entry]
abbrev aac:List Ty:=[.i .i64,.i .i64]
abbrev Yh:List Ty:=[.st .entry,.i .i64,.i .i64]
abbrev ZQ:List Ty:=[.st .server,.i .i64,.st .place]
abbrev ZR:List Ty:=[.i .i64,.i .i64,.i .i64,.i .i64]
abbrev ZS:List Ty:=[.i .i64,.i .i64,.i .i64]
abbrev ZT:List Ty:=[.st .reply,.st .server,.i .i64,.st .config,.st .place]
abbrev JP:List Sh:=[.int .i64,.ro (.st .server),.ro (.i .i64),.ro (.st .config),.int .i64,.int .i64,.int .i64,.int .i64,.int .i64,.ro (.st .place)]
abbrev Lx:List Sh:=[.int .i64,.em,.em,.em,.int .i64,.int .i64,.int .i64,.int .i64,.int .i64,.em]
abbrev To:List Sh:=[.int .i64,.own 1 (.st .server),.own 2 (.i .i64),.own 3 (.st .config),.int .i64,.int .i64,.int .i64,.int .i64,.int .i64,.own 4 (.st .place)]
abbrev Tp:List Sh:=[.int .i64,.own 0 (.st .server),.own 1 (.i .i64),.own 2 (.st .config),.int .i64,.int .i64,.int .i64,.int .i64,.int .i64,.own 3 (.st .place)]
abbrev UC:List Sh:=[.int .i64,.own 2 (.st .server),.own 3 (.i .i64),.own 4 (.st .config),.int .i64,.int .i64,.int .i64,.int .i64,.int .i64,.own 5 (.st .place)]
abbrev V9:List Sh:=[.ro (.st .config),.int .i64]
abbrev Wa:List Sh:=[.ro (.i .i64),.ro (.st .session)]
abbrev Wb:List Sh:=[.int .i64,.int .i64,.own 6 (.i .i64),.own 7 (.i .i64)]
abbrev Xd:List Sh:=[.em,.int .i64]
abbrev Yg:List Sh:=[.int .i64,.int .i64,.own 1 (.i .i64),.own 2 (.i .i64)]
abbrev WE:List Sh:=[.own 0 (.st .config),.int .i64]
abbrev WF:List Sh:=[.int .i64,.own 0 (.st .server),.ro (.i .i64),.ro (.st .config),.int .i64,.int .i64,.int .i64,.int .i64,.int .i64,.ro (.st .place)]
abbrev WG:List Sh:=[.bl,.int .i64]
abbrev WH:List Sh:=[.own 0 (.i .i64),.own 1 (.st .session)]
abbrev Yf:List Sh:=[.int .i64,.int .i64,.bl,.int .i64]
abbrev ZJ:List Sh:=[.int .i64,.own 0 (.st .server),.own 1 (.i .i64),.em,.int .i64,.int .i64,.int .i64,.int .i64,.int .i64,.own 2 (.st .place)]
abbrev ZK:List Sh:=[.int .i64,.int .i64,.int .i64,.int .i64,.int .i64,.int .i64]
abbrev ZL:List Sh:=[.int .i64,.int .i64,.em,.em]
abbrev ZM:List Sh:=[.int .i64,.int .i64,.own 2 (.i .i64),.own 3 (.i .i64)]
abbrev ZN:List Sh:=[.bl,.bl,.int .i64,.int .i64,.int .i64,.int .i64,.ro (.i .i64),.ro (.i .i64),.int .i64,.ro (.st .entry),.int .i64,.ro (.st .entry)]
abbrev ZO:List Sh:=[.int .i64,.int .i64,.own 0 (.i .i64),.own 1 (.i .i64)]
abbrev ZP:List Sh:=[.own 1 (.st .config),.int .i64]
def sb0:ByteArray:=⟨⟨[0,1,2,2,3,3,3,3,4,4,4,4,4,4,4,4,5,5,5,5,5,5,5,5,5,5,5,5,5,5,5,5,6,6,6,6,6,6,6,6,6,6,6,6,6,6,6,6,6,6,6,6,6,6,6,6,6,6,6,6,6,6,6,6,7,7,7,7,7,7,7,7,7,7,7,7,7,7,7,7,7,7,7,7,7,7,7,7,7,7,7,7,7,7,7,7,7,7,7,7,7,7,7,7,7,7,7,7,7,7,7,7,7,7,7,7,7,7,7,7,7,7,7,7,7,7,7,7,8,8,8,8,8,8,8,8,8,8,8,8,8,8,8,8,8,8,8,8,8,8,8,8,8,8,8,8,8,8,8,8,8,8,8,8,8,8,8,8,8,8,8,8,8,8,8,8,8,8,8,8,8,8,8,8,8,8,8,8,8,8,8,8,8,8,8,8,8,8,8,8,8,8,8,8,8,8,8,8,8,8,8,8,8,8,8,8,8,8,8,8,8,8,8,8,8,8,8,8,8,8,8,8,8,8,8,8,8,8,8,8,8,8,8,8,8,8,8,8,8,8,8,8,8,8,8,8]⟩⟩
theorem Jz:Tryz.prog.follows .mixedOrders=true:=by kernel_rfl
abbrev HP[dL] :=@EH _ _ EG Jz _
abbrev FH[dL] :=@Eu _ _ EG Jz _
abbrev coM[dL] :=@EB _ _ EG Jz _
abbrev coI[dL] :=@EA _ _ EG Jz _
abbrev coC[dL] :=@Ew _ _ EG Jz _
abbrev RL[dL] :=@ED _ _ EG Jz _
abbrev coQ[dL] :=@EC _ _ EG Jz _
def XC(a0:Hd):Option (Bool×Unit):=some (decide (1048576< (a0.n:Int)),())
section
open Go.RowKit
theorem Xn(x:Hd)(w:World):Calls Tryz.prog 7 #[.slice x.a x.n x.c] w λe w'=>e= .returned (.bool (decide (1048576< (x.n:Int))))/\Below w.heap.size w w':=by
 have mixed:Tryz.prog.follows .mixedOrders=true:=Jz
 go_enter Tryz.func7,Tryz.ntmps7
 go_wp2
 go_ret
 exact⟨rfl,Below.refl _ _⟩
end
def aay[dL] :=Ey (P:=Tryz.prog) 7 (by kernel_rfl) (CW Tryz.func7 (by kernel_rfl) rfl) [.ty .h] [.b] rfl rfl (λx=>XC x.1) λx y h w=>by obtain rfl:=Option.some.inj h;exact Xn x.1 w
def TY[dL](a0:Hd):Option (List qO×Unit):=(D7 a0).map λc=>([c],())
section
open Go.RowKit
set_option maxHeartbeats 4000000 in
set_option maxRecDepth 100000 in
theorem Vr[dL](x:Hd)(c:qO)(hx:D7 x=some c)(w:World)(hB: ∀a v,dL.w.cell? a=some v->w.cell? a=some v):
  Calls Tryz.prog 56 #[.slice x.a x.n x.c] w λr w'=> ∃b cs e,r= .returned (.pointer (some ⟨b,0,none⟩))/\Below w.heap.size w w'/\w.heap.size<=b/\w'.heap[b]? =some (.cells cs e (0,0))/\cs.size=3/\jW cs 0 c:=by
 have mixed:Tryz.prog.follows .mixedOrders=true:=Jz;obtain⟨l,hl,rfl⟩:=aj.1 hx;obtain⟨hlen,hg⟩:=B4 hl
 have hg2: ∀ (k:Nat) m,l[k]? =some m-> ∃ad,x.a=some ad/\w.cell? (ad.add k)=some (.int .u8 m):=λk m hk=>by obtain⟨ad,h1,h2⟩:=hg k m hk;exact⟨ad,h1,hB _ _ h2⟩
 clear hg hB hl hx;obtain⟨a,n,cp⟩:=x;simp only at hlen hg2 ⊢;obtain⟨h0,hh0⟩: ∃h0,h0=wrap64 (10101+(n:Int)):=⟨_,rfl⟩
 rw[<-hh0];obtain⟨hf,hhf⟩: ∃hf,hf=(l.take 4000).foldl Ea h0:=⟨_,rfl⟩
 rw[<-hhf]
 go_enter Tryz.func56,Tryz.ntmps56
 go_wp2
 rw[<-hh0]
 go_loop [3,4] (λh i=> ∃k:Nat,k<=n/\k<=4000/\i= .int .i64 k/\h= .int .i64 ((l.take k).foldl Ea h0)) (λ_ i=>n-(intOf i).toNat)
 case atStart=>exact⟨0,bH _,bH _,rfl,by rw[dE,List.foldl_nil]⟩
 case round=>
  obtain⟨k,hk,hk4,rfl,rfl⟩:=hrel;clear hh0;by_cases h1:k<n
  ·by_cases h2:k<4000
   ·have hgk:l[k]? =some l[k] :=an (by omega);obtain⟨ad,rfl,hc⟩:=hg2 k _ hgk
    have hnext: (l.take (k+1)).foldl Ea h0=Ea ((l.take k).foldl Ea h0) l[k] :=by rw[EO,hgk,List.foldl_append,Option.toList_some,List.foldl_cons,List.foldl_nil]
    generalize l[k] =m at hc hnext hgk;clear hg2
    go_wp2
    refine⟨⟨k+1,h1,h2,by rw[Int.natCast_succ],by rw[hnext];rfl⟩,?_⟩;simp only[intOf];omega
   ·have hk0:l.take 4000=l.take k:=by rw[show k=4000 by omega]
    clear hg2
    go_wp2
    go_ret
    rw[hk0] at hhf;subst hhf;exact⟨_,rfl,(Below.refl _ w).alloc (az _) _,az _,_,⟨_,iP w _⟩,rfl,rfl,rfl,rfl⟩
  ·have hk0:l.take 4000=l.take k:=by rw[bS (by omega),bS (by omega)]
   clear hg2
   go_wp2
   go_ret
   rw[hk0] at hhf;subst hhf;exact⟨_,rfl,(Below.refl _ w).alloc (az _) _,az _,_,⟨_,iP w _⟩,rfl,rfl,rfl,rfl⟩
end
def YP[dL] :=Em (P:=Tryz.prog) 56 (by kernel_rfl) (CW Tryz.func56 (by kernel_rfl) rfl) D7 Vr
def Nf[dL](a0:List qO):Option (List qO×Int×Unit):=D6 DH a0
section
open Go.RowKit
set_option maxHeartbeats 4000000 in
set_option maxRecDepth 100000 in
theorem UM[dL](c:qO)(y:qO×Int)(hy:DH c=some y)(w:World)(b O:Nat)(cs:Array Value)(e:TypeId)(hB: ∀a v,dL.w.cell? a=some v->w.cell? a=some v/\a.block≠b)(hb:w.heap[b]? =some (.cells cs e (0,0)))(hc:jW cs O c):
   Calls Tryz.prog 170 #[.pointer (some ⟨b,O,none⟩)] w λr w'=>r= .returned (.int .i64 y.2)/\w'.os=w.os/\w'.tape=w.tape/\w'.output=w.output/\w'.heap.size=w.heap.size/\(∀k,k≠b->w'.heap[k]? =w.heap[k]?)/\ ∃cs',w'.heap[b]? =some (.cells cs' e (0,0))/\cs'.size=cs.size/\jW cs' O y.1/\ ∀k,(k<O\/O+3<=k)->cs'[k]? =cs[k]? :=by
 have mixed:Tryz.prog.follows .mixedOrders=true:=Jz;have h0:w.cell? ⟨b,O,none⟩=some (.slice c.b.a c.b.n c.b.c):=by simp[World.cell?,hb,hc.1]
 have h1:w.cell? ⟨b,O+1,none⟩=some (.int .i64 c.i):=by simp[World.cell?,hb,hc.2.1]
 have h2:w.cell? ⟨b,O+2,none⟩=some (.int .i64 c.h):=by simp[World.cell?,hb,hc.2.2]
 have hf1:w.frozen? ⟨b,O+1,none⟩=false:=by simp[World.frozen?,hb]
 have hf2:w.frozen? ⟨b,O+2,none⟩=false:=by simp[World.frozen?,hb]
 unfold DH at hy;split at hy
 ·rename_i hi;split at hy
  ·rename_i hi0;obtain⟨m,hm,rfl⟩:=aj.1 hy;obtain⟨l,hl,hm⟩:=ah.1 hm;obtain⟨_,hg⟩:=B4 hl;obtain⟨ad,ha,hcell⟩:=hg _ _ hm;obtain⟨hc2,hne⟩:=hB _ _ hcell;rw[gV] at hne;clear hy hg hB hl;obtain⟨⟨a,n,cp⟩,i,h⟩:=c;simp only at hi hi0 ha h0 h1 h2 hc2 hm ⊢;subst ha;clear hm hcell;have hk: ∀v,(w.setCell ⟨b,O+2,none⟩ v).cell? (ad.add i.toNat)=some (.int .u8 m):=λv=>(World.cell?_setCell_other w _ _ v (λe=>hne (by rw[<-gV ad i.toNat,<-e]))).trans hc2
   go_enter Tryz.func170,Tryz.ntmps170
   go_wp2
   go_region
   go_wp2
   go_region
   go_wp2
   go_region
   go_wp2
   go_ret
   exact⟨rfl,rfl,rfl,rfl,DI hb hc (.inl rfl)⟩
  ·cases hy
 ·rename_i hi;obtain rfl:=Option.some.inj hy;obtain⟨⟨a,n,cp⟩,i,h⟩:=c;simp only at hi h0 h1 h2 ⊢;clear hy hB
  go_enter Tryz.func170,Tryz.ntmps170
  go_wp2
  go_region
  go_wp2
  go_region
  go_wp2
  go_ret
  exact⟨rfl,rfl,rfl,rfl,DI hb hc (.inr ⟨rfl,rfl⟩)⟩
end
def XS[dL] :=Ep (P:=Tryz.prog) 170 (by kernel_rfl) (CW Tryz.func170 (by kernel_rfl) rfl) DH UM
def Fj[dL](a0:List qO)(a1:Int):Option ((List qO)×Int×Unit):=
 br (decide (a1<=0)) (some (a0,0,())) (br (decide (a1<=256)) ((Nf a0).bind λy1=>iteP (y1.1.length=a0.length) (iteP (a1=0) none (some (y1.1,(Int.tmod y1.2.1 a1),()))) none) ((Nf a0).bind λy2=>iteP (y2.1.length=a0.length) ((Nf y2.1).bind λy3=>iteP (y3.1.length=y2.1.length) ((Nf y3.1).bind λy4=>iteP (y4.1.length=y3.1.length) ((Nf y4.1).bind λy5=>iteP (y5.1.length=y4.1.length) (iteP (a1=0) none (some (y5.1,(Int.tmod (IntKind.wrap .i64 ((IntKind.wrap .i64 ((IntKind.wrap .i64 ((IntKind.wrap .i64 (y2.2.1*16777216))+(IntKind.wrap .i64 (y3.2.1*65536))))+(IntKind.wrap .i64 (y4.2.1*256))))+y5.2.1)) a1),()))) none) none) none) none))
def F5[dL] :=RL 88 Tryz.f88 (.st .cur) Uz KB (λl x=>Fj l x.1) [XS] [] (by kernel_rfl) λl x=>by simp only[Fj,tm,-eq_self];kernel_rfl
abbrev Qo:LX:=⟨⟨[Su,Zt,MH],[],[.st .cur,.st .place],1,22⟩,[(.ext 0,⟨[Zt],[],[.st .cur,.st .place],1,22⟩)],[],[0,3,4],[3]⟩
def LO[dL](s:V8×Unit×List qO×List vB×Unit):Qo.R:=
 br (decide (s.1.2.2.1<5)) ((Fj s.2.2.1 4).bind λy4=>iteP (y4.1.length=s.2.2.1.length) ((Fj y4.1 4).bind λy5=>iteP (y5.1.length=y4.1.length) ((Fj y5.1 4).bind λy6=>iteP (y6.1.length=y5.1.length) (iteP ((s.2.2.2.1++([(⟨y4.2.1,(IntKind.wrap .i64 (1+y5.2.1)),y6.2.1⟩:vB)]:List vB)).length*24<=2 ^ 40) (some (.inl (((),(),(IntKind.wrap .i64 (s.1.2.2.1+1)),()),(()),y6.1,(s.2.2.2.1++([(⟨y4.2.1,(IntKind.wrap .i64 (1+y5.2.1)),y6.2.1⟩:vB)]:List vB)),()))) none) none) none) none) (some (.inr (((),()),(()),s.2.2)))
def Uy[dL] :=md LO
def UJ[dL] :=HP Tryz.f218 [0] Qo LO [F5] [] (by kernel_rfl) λs=>by simp only[LO,tm,-eq_self];kernel_rfl
def KQ[dL](a0:List qO):Option ((List qO)×(List vB)×Unit):=
 (Uy (((),(),0,()),(()),a0,([]:List vB),())).bind λe7=>some e7.2.2
def Sd[dL] :=RL 218 Tryz.f218 (.st .cur) [] [.ls (.st .place)] (λl _=>KQ l) [] [UJ] (by kernel_rfl) λl x=>by simp only[KQ,tm];kernel_rfl
def Fn(a0:Int)(a1:Int)(a2:Int):Option (Bool×Unit):=
 br (decide (a0≥a1)) (some ((decide (a0<=a2)),())) (some (false,()))
def FP[dL] :=FH 90 Tryz.f90 XW [.b] (λx=>Fn x.1 x.2.1 x.2.2.1) [] [] (by kernel_rfl) λx=>by simp only[Fn,tm];kernel_rfl
abbrev Pr:LX:=⟨⟨[Q9,NS],[],[],0,38⟩,[(.ret,⟨[Q9,Qj],[],[],0,38⟩),(.ext 0,⟨[Q9,Pa],[],[],0,38⟩)],[],[0,3],[0,2]⟩
def HJ(s: (List vB×Int×Unit)×Unit×Unit):Pr.R:=
 br (decide (s.1.2.1< (s.1.1.length:Int))) (iteP (0<=s.1.2.1) ((s.1.1[s.1.2.1.toNat]?).bind λx3=>(Fn x3.rack 0 9).bind λy4=>br (!y4.1) (some (.inr (.inl ((s.1.1,false,()),(()),(()))))) (iteP (0<=s.1.2.1) ((s.1.1[s.1.2.1.toNat]?).bind λx5=>(Fn x5.capacity 0 9).bind λy6=>br (!y6.1) (some (.inr (.inl ((s.1.1,false,()),(()),(()))))) (iteP (0<=s.1.2.1) ((s.1.1[s.1.2.1.toNat]?).bind λx7=>(Fn x7.load 0 99).bind λy8=>br (!y8.1) (some (.inr (.inl ((s.1.1,false,()),(()),(()))))) (some (.inl ((s.1.1,(IntKind.wrap .i64 (s.1.2.1+1)),()),(()),(()))))) none)) none)) none) (some (.inr (.inr ((s.1.1,(),()),(()),(())))))
def MX:=md HJ
def Tv[dL] :=HP Tryz.f160 [0] Pr HJ [FP] [] (by kernel_rfl) λs=>by simp only[HJ,tm];kernel_rfl
def FQ(a0:List vB):Option (Bool×Unit):=
 (MX ((a0,0,()),(()),(()))).bind λe9=>Sum.elim (λe9_0=>some e9_0.1.2) (λe9_1=>some (((e9_1.1.1.length:Int)==5),())) e9
def Lt[dL] :=FH 160 Tryz.f160 XX [.b] (λx=>FQ x.1) [] [Tv] (by kernel_rfl) λx=>by simp only[FQ,tm];kernel_rfl
def JX(a0:Int):Option (qQ×Unit):=
 (Fn a0 1 2).bind λy1=>br (!y1.1) (some ((⟨true,true,1,0,(⟨0,0,([]:List Int),([]:List Int)⟩:om),0,([]:List sf),0,([]:List sf)⟩:qQ),())) (some ((⟨true,true,a0,0,(⟨0,0,([]:List Int),([]:List Int)⟩:om),0,([]:List sf),0,([]:List sf)⟩:qQ),()))
def Q3[dL] :=FH 236 Tryz.f236 Uz YY (λx=>JX x.1) [FP] [] (by kernel_rfl) λx=>by simp only[JX,tm];kernel_rfl
abbrev OS:LX:=⟨⟨[MZ,Ra,MH],[Lx,ZJ],ZQ,0,25⟩,[(.ext 0,⟨[MZ,Ra],[Lx,ZJ],ZQ,0,25⟩)],[.b 1 1 (.st .server)],[2,3,4],[2,3]⟩
def J6(s:V8×(LF×LF×Unit)×List qQ×List Int×List vB×Unit):OS.R:=
 br (decide (s.1.2.2.1<5)) ((JX 1).bind λy34=>iteP ((s.2.2.1++([y34.1]:List qQ)).length*152<=2 ^ 40) (some (.inl (((),(),(IntKind.wrap .i64 (s.1.2.2.1+1)),()),s.2.1,(s.2.2.1++([y34.1]:List qQ)),s.2.2.2))) none) (some (.inr (((),(),()),s.2)))
def So:=md J6
def SN[dL] :=HP Tryz.f217 [0] OS J6 [Q3] [] (by kernel_rfl) λs=>by simp only[J6,tm];kernel_rfl
def Kl(a0:List vB):Option (qN×Unit):=
 (FQ a0).bind λy1=>br (!y1.1) (some ((⟨0,([]:List qQ),([]:List Int),(⟨([]:List om),0⟩:kB),0,(⟨0,0,0⟩:vz),([]:List vB)⟩:qN),())) (iteP (0<=(5:Int)/\(5:Int)=5/\5*((8:Nat):Int)<=2 ^ 40) (iteP ((([]:List vB)++a0).length*24<=2 ^ 40) ((So (((),(),0,()),((0,(),(),(),0,0,0,0,0,(),()),(0,(),(),(),0,3,0,0,0,(),()),()),([]:List qQ),(List.replicate (5:Int).toNat (0:Int)),(([]:List vB)++a0),())).bind λe35=>some ((⟨e35.2.1.2.1.1,e35.2.2.1,e35.2.2.2.1,(⟨([]:List om),e35.2.1.2.1.2.2.2.2.1⟩:kB),e35.2.1.2.1.2.2.2.2.2.1,(⟨e35.2.1.2.1.2.2.2.2.2.2.1,e35.2.1.2.1.2.2.2.2.2.2.2.1,e35.2.1.2.1.2.2.2.2.2.2.2.2.1⟩:vz),e35.2.2.2.2.1⟩:qN),())) none) none)
def Um[dL] :=FH 217 Tryz.f217 XX Xb (λx=>Kl x.1) [Lt] [SN] (by kernel_rfl) λx=>by simp only[Kl,tm,-eq_self];kernel_rfl
def Gg[dL](a0:List qO)(a1:Int):Option ((List qO)×Bool×Unit):=
 (Fj a0 a1).bind λy1=>iteP (y1.1.length=a0.length) (some (y1.1,(y1.2.1==0),())) none
def Ix[dL] :=RL 84 Tryz.f84 (.st .cur) Uz [.b] (λl x=>Gg l x.1) [F5] [] (by kernel_rfl) λl x=>by simp only[Gg,tm,-eq_self];kernel_rfl
def Fq[dL](a0:List qO)(a1:List Int):Option ((List qO)×Int×Unit):=
 (Fj a0 (a1.length:Int)).bind λy1=>iteP (y1.1.length=a0.length) (iteP (0<=y1.2.1) ((a1[y1.2.1.toNat]?).bind λx2=>some (y1.1,x2,())) none) none
def Gi[dL] :=RL 86 Tryz.f86 (.st .cur) V5 KB (λl x=>Fq l x.1) [F5] [] (by kernel_rfl) λl x=>by simp only[Fq,tm,-eq_self];kernel_rfl
def MT[dL](a0:List qO):Option ((List qO)×Op×Unit):=
 (Fj a0 3).bind λy1=>iteP (y1.1.length=a0.length) ((Fj y1.1 5).bind λy2=>iteP (y2.1.length=y1.1.length) ((Fj y2.1 3).bind λy3=>iteP (y3.1.length=y2.1.length) ((Fj y3.1 10).bind λy4=>iteP (y4.1.length=y3.1.length) ((Gg y4.1 3).bind λy5=>iteP (y5.1.length=y4.1.length) (br y5.2.1 ((Fq y5.1 ([0,0,1,5,9]:List Int)).bind λy6=>iteP (y6.1.length=y5.1.length) (some (y6.1,(⟨y1.2.1,(IntKind.wrap .i64 (1+y2.2.1)),2,y3.2.1,y6.2.1,y4.2.1⟩:Op),())) none) (some (y5.1,(⟨y1.2.1,(IntKind.wrap .i64 (1+y2.2.1)),1,y3.2.1,0,y4.2.1⟩:Op),()))) none) none) none) none) none
def Uu[dL] :=RL 169 Tryz.f169 (.st .cur) [] [.st .op] (λl _=>MT l) [F5,Ix,Gi] [] (by kernel_rfl) λl x=>by simp only[MT,tm,-eq_self];kernel_rfl
def Mh[dL](a0:List qO):Option ((List qO)×xx×Unit):=
 (Fj a0 5).bind λy1=>iteP (y1.1.length=a0.length) ((Fj y1.1 24).bind λy2=>iteP (y2.1.length=y1.1.length) (br (y2.2.1==0) ((Fj y2.1 20).bind λy3=>iteP (y3.1.length=y2.1.length) (some (y3.1,(⟨3,y1.2.1,0,(IntKind.wrap .i64 (1+y3.2.1)),(⟨0,0,0,0,0,0⟩:Op)⟩:xx),())) none) (br (y2.2.1==1) ((Fj y2.1 2).bind λy4=>iteP (y4.1.length=y2.1.length) ((Fj y4.1 3).bind λy5=>iteP (y5.1.length=y4.1.length) (some (y5.1,(⟨4,0,y4.2.1,(IntKind.wrap .i64 (1+y5.2.1)),(⟨0,0,0,0,0,0⟩:Op)⟩:xx),())) none) none) (br (y2.2.1==2) (some (y2.1,(⟨5,0,0,0,(⟨0,0,0,0,0,0⟩:Op)⟩:xx),())) (br (y2.2.1==3) (some (y2.1,(⟨6,y1.2.1,0,0,(⟨0,0,0,0,0,0⟩:Op)⟩:xx),())) (let j23 (p6:Bool):Option ((List qO)×xx×Unit):=br p6 (some (y2.1,(⟨7,y1.2.1,0,0,(⟨0,0,0,0,0,0⟩:Op)⟩:xx),())) (br (y2.2.1==6) ((Gg y2.1 3).bind λy7=>iteP (y7.1.length=y2.1.length) (br y7.2.1 (some (y7.1,(⟨8,y1.2.1,0,0,(⟨0,0,0,0,0,0⟩:Op)⟩:xx),())) ((MT y7.1).bind λy26=>iteP (y26.1.length=y7.1.length) (some (y26.1,(⟨1,y1.2.1,0,0,y26.2.1⟩:xx),())) none)) none) (br (y2.2.1==7) ((Fq y2.1 ([0,0,1]:List Int)).bind λy8=>iteP (y8.1.length=y2.1.length) (some (y8.1,(⟨9,y1.2.1,0,y8.2.1,(⟨0,0,0,0,0,0⟩:Op)⟩:xx),())) none) (br (y2.2.1==8) ((Fj y2.1 3).bind λy9=>iteP (y9.1.length=y2.1.length) (some (y9.1,(⟨10,0,0,(IntKind.wrap .i64 (1+y9.2.1)),(⟨0,0,0,0,0,0⟩:Op)⟩:xx),())) none) (let j22 (p10:Bool):Option ((List qO)×xx×Unit):=br p10 ((Fj y2.1 12).bind λy11=>iteP (y11.1.length=y2.1.length) (some (y11.1,(⟨11,0,0,y11.2.1,(⟨0,0,0,0,0,0⟩:Op)⟩:xx),())) none) (br (y2.2.1==11) ((Fj y2.1 5).bind λy12=>iteP (y12.1.length=y2.1.length) ((Fj y12.1 4).bind λy13=>iteP (y13.1.length=y12.1.length) (some (y13.1,(⟨12,y1.2.1,y12.2.1,(IntKind.wrap .i64 (1+y13.2.1)),(⟨0,0,0,0,0,0⟩:Op)⟩:xx),())) none) none) (br (y2.2.1==12) (some (y2.1,(⟨13,y1.2.1,0,0,(⟨0,0,0,0,0,0⟩:Op)⟩:xx),())) (br (y2.2.1==13) (some (y2.1,(⟨14,y1.2.1,0,0,(⟨0,0,0,0,0,0⟩:Op)⟩:xx),())) (br (y2.2.1==14) (some (y2.1,(⟨15,y1.2.1,0,0,(⟨0,0,0,0,0,0⟩:Op)⟩:xx),())) (let j21 (p14:Bool):Option ((List qO)×xx×Unit):=br p14 ((Fj y2.1 3).bind λy15=>iteP (y15.1.length=y2.1.length) ((Fj y15.1 20).bind λy16=>iteP (y16.1.length=y15.1.length) (some (y16.1,(⟨16,0,(IntKind.wrap .i64 (1+y15.2.1)),(IntKind.wrap .i64 (1+y16.2.1)),(⟨0,0,0,0,0,0⟩:Op)⟩:xx),())) none) none) (br (y2.2.1==17) ((Fj y2.1 3).bind λy19=>iteP (y19.1.length=y2.1.length) (some (y19.1,(⟨2,y1.2.1,0,y19.2.1,(⟨0,0,0,0,0,0⟩:Op)⟩:xx),())) none) (br (y2.2.1==18) ((Fj y2.1 3).bind λy20=>iteP (y20.1.length=y2.1.length) (some (y20.1,(⟨2,y1.2.1,0,y20.2.1,(⟨0,0,0,0,0,0⟩:Op)⟩:xx),())) none) ((MT y2.1).bind λy27=>iteP (y27.1.length=y2.1.length) (some (y27.1,(⟨1,y1.2.1,0,0,y27.2.1⟩:xx),())) none)));br (y2.2.1==15) (j21 true) (j21 (y2.2.1==16)))))));br (y2.2.1==9) (j22 true) (j22 (y2.2.1==10))))));br (y2.2.1==4) (j23 true) (j23 (y2.2.1==5))))))) none) none
def VX[dL] :=RL 237 Tryz.f237 (.st .cur) [] [.st .event] (λl _=>Mh l) [F5,Ix,Gi,Uu] [] (by kernel_rfl) λl x=>by simp only[Mh,tm,-eq_self];kernel_rfl
abbrev Py:LX:=⟨⟨[Su,Zu,MP],[],[.st .cur,.st .event],1,48⟩,[(.ext 0,⟨[Zu],[],[.st .cur,.st .event],1,48⟩)],[],[0,5,6],[5]⟩
def Jl[dL](s:V8×Unit×List qO×List xx×Unit):Py.R:=
 br (decide (s.1.2.2.1>0)) ((Mh s.2.2.1).bind λy21=>iteP (y21.1.length=s.2.2.1.length) (br (y21.2.1.kind==1) ((Gg y21.1 3).bind λy22=>iteP (y22.1.length=y21.1.length) (br (!y22.2.1) ((Fq y22.1 ([0,0,1]:List Int)).bind λy23=>iteP (y23.1.length=y22.1.length) (iteP ((s.2.2.2.1++([(⟨y21.2.1.kind,y23.2.1,y21.2.1.other,y21.2.1.n,y21.2.1.op⟩:xx)]:List xx)).length*80<=2 ^ 40) (some (.inl (((),(),(IntKind.wrap .i64 (s.1.2.2.1-1)),()),(()),y23.1,(s.2.2.2.1++([(⟨y21.2.1.kind,y23.2.1,y21.2.1.other,y21.2.1.n,y21.2.1.op⟩:xx)]:List xx)),()))) none) none) (iteP ((s.2.2.2.1++([y21.2.1]:List xx)).length*80<=2 ^ 40) (some (.inl (((),(),(IntKind.wrap .i64 (s.1.2.2.1-1)),()),(()),y22.1,(s.2.2.2.1++([y21.2.1]:List xx)),()))) none)) none) (iteP ((s.2.2.2.1++([y21.2.1]:List xx)).length*80<=2 ^ 40) (some (.inl (((),(),(IntKind.wrap .i64 (s.1.2.2.1-1)),()),(()),y21.1,(s.2.2.2.1++([y21.2.1]:List xx)),()))) none)) none) (some (.inr (((),()),(()),s.2.2)))
def Lf[dL] :=md Jl
def TF[dL] :=HP Tryz.f219 [0] Py Jl [Ix,VX,Gi] [] (by kernel_rfl) λs=>by simp only[Jl,tm,-eq_self];kernel_rfl
def Ls[dL](a0:List qO)(a1:Int):Option ((List qO)×(List xx)×Unit):=
 (Fj a0 3).bind λy1=>iteP (y1.1.length=a0.length) ((Fj y1.1 20).bind λy2=>iteP (y2.1.length=y1.1.length) ((Gg y2.1 2).bind λy3=>iteP (y3.1.length=y2.1.length) (br y3.2.1 ((Fj y3.1 (IntKind.wrap .i64 (a1+1))).bind λy17=>iteP (y17.1.length=y3.1.length) ((Lf (((),(),y17.2.1,()),(()),y17.1,([(⟨4,0,1,2,(⟨0,0,0,0,0,0⟩:Op)⟩:xx),(⟨5,0,0,0,(⟨0,0,0,0,0,0⟩:Op)⟩:xx)]:List xx),())).bind λe28=>some e28.2.2) none) ((Fj y3.1 (IntKind.wrap .i64 (a1+1))).bind λy29=>iteP (y29.1.length=y3.1.length) ((Lf (((),(),y29.2.1,()),(()),y29.1,([(⟨16,0,(IntKind.wrap .i64 (1+y1.2.1)),(IntKind.wrap .i64 (1+y2.2.1)),(⟨0,0,0,0,0,0⟩:Op)⟩:xx)]:List xx),())).bind λe40=>some e40.2.2) none)) none) none) none
def Va[dL] :=RL 219 Tryz.f219 (.st .cur) Uz [.ls (.st .event)] (λl x=>Ls l x.1) [F5,Ix] [TF] (by kernel_rfl) λl x=>by simp only[Ls,tm,-eq_self];kernel_rfl
def H6(a0:om):Option (om×Unit):=
 iteP ((([]:List Int)++a0.replicas).length*8<=2 ^ 40) (iteP ((([]:List Int)++a0.witnesses).length*8<=2 ^ 40) (some ((⟨a0.epoch,a0.primary,(([]:List Int)++a0.replicas),(([]:List Int)++a0.witnesses)⟩:om),())) none) none
def OC[dL] :=FH 149 Tryz.f149 V6 YZ (λx=>H6 x.1) [] [] (by kernel_rfl) λx=>by simp only[H6,tm];kernel_rfl
def GP(a0:List sf):Option ((List sf)×Unit):=
 iteP ((([]:List sf)++a0).length*56<=2 ^ 40) (some ((([]:List sf)++a0),())) none
def Ju[dL] :=FH 87 Tryz.f87 QI Xc (λx=>GP x.1) [] [] (by kernel_rfl) λx=>by simp only[GP,tm];kernel_rfl
def Hy(a0:qQ):Option (qQ×Unit):=
 (H6 a0.config).bind λy1=>(GP a0.log).bind λy2=>(GP a0.learned).bind λy3=>some ((⟨a0.up,a0.intact,a0.version,a0.epoch,y1.1,a0.first,y2.1,a0.commit,y3.1⟩:qQ),())
def QB[dL] :=FH 142 Tryz.f142 Vc YY (λx=>Hy x.1) [OC,Ju] [] (by kernel_rfl) λx=>by simp only[Hy,tm];kernel_rfl
abbrev Ri:LX:=⟨⟨[J3,Nv,Ve,MH],[V9,Xd,WE],Y2,0,29⟩,[(.ext 0,⟨[MZ,Ra],[Xd,WE],Y2,0,29⟩)],[.b 2 0 (.st .config)],[1,2,3,4],[2,3]⟩
def JR(s:YX×(Z9×Sz×Sz×Unit)×List om×Unit):Ri.R:=
 br (decide (s.1.2.2.2.1< (s.2.1.1.1.length:Int))) (iteP (0<=s.1.2.2.2.1) ((s.2.1.1.1[s.1.2.2.2.1.toNat]?).bind λx14=>(H6 x14).bind λy15=>iteP ((s.2.2.1++([y15.1]:List om)).length*64<=2 ^ 40) (some (.inl (((),(),(),(IntKind.wrap .i64 (s.1.2.2.2.1+1)),()),s.2.1,(s.2.2.1++([y15.1]:List om)),()))) none) none) (some (.inr (((),(),()),s.2.1.2,s.2.2)))
def Q7:=md JR
def Vm[dL] :=HP Tryz.f143 [0] Ri JR [OC] [] (by kernel_rfl) λs=>by simp only[JR,tm];kernel_rfl
def KP(a0:kB):Option (kB×Unit):=
 (Q7 (((),(),(),0,()),((a0.configs,a0.activated,()),((),0,()),((),a0.activated,()),()),([]:List om),())).bind λe16=>some ((⟨e16.2.2.1,e16.2.1.2.1.2.1⟩:kB),())
def QA[dL] :=FH 143 Tryz.f143 Xa Y0 (λx=>KP x.1) [] [Vm] (by kernel_rfl) λx=>by simp only[KP,tm];kernel_rfl
abbrev Rj:LX:=⟨⟨[J3,Nv,Ve,MH],[JP,Lx,WF],Y3,0,42⟩,[(.ext 0,⟨[J3,Nv,Ve],[JP,Lx,WF],Y3,0,42⟩)],[.b 2 1 (.st .server)],[1,2,3,4],[1,2,3]⟩
def JS(s:YX×(M1×LF×Zy×Unit)×List qQ×Unit):Rj.R:=
 br (decide (s.1.2.2.2.1< (s.2.1.1.2.1.length:Int))) (iteP (0<=s.1.2.2.2.1) ((s.2.1.1.2.1[s.1.2.2.2.1.toNat]?).bind λx56=>(Hy x56).bind λy57=>iteP ((s.2.2.1++([y57.1]:List qQ)).length*152<=2 ^ 40) (some (.inl (((),(),(),(IntKind.wrap .i64 (s.1.2.2.2.1+1)),()),s.2.1,(s.2.2.1++([y57.1]:List qQ)),()))) none) none) (some (.inr (((),(),(),()),s.2)))
def Q8:=md JS
def Vn[dL] :=HP Tryz.f65 [0] Rj JS [QB] [] (by kernel_rfl) λs=>by simp only[JS,tm];kernel_rfl
def FE(a0:qN):Option (qN×Unit):=
 (Q8 (((),(),(),0,()),((a0.now,a0.servers,a0.sides,a0.master.configs,a0.master.activated,a0.masterUp,a0.lease.epoch,a0.lease.holder,a0.lease.ends,a0.places,()),(0,(),(),(),0,0,0,0,0,(),()),(a0.now,(),a0.sides,a0.master.configs,a0.master.activated,a0.masterUp,a0.lease.epoch,a0.lease.holder,a0.lease.ends,a0.places,()),()),([]:List qQ),())).bind λe58=>iteP ((([]:List Int)++e58.2.1.1.2.2.1).length*8<=2 ^ 40) ((KP (⟨e58.2.1.1.2.2.2.1,e58.2.1.1.2.2.2.2.1⟩:kB)).bind λy59=>iteP ((([]:List vB)++e58.2.1.1.2.2.2.2.2.2.2.2.2.1).length*24<=2 ^ 40) (some ((⟨e58.2.1.2.2.1.1,e58.2.2.1,(([]:List Int)++e58.2.1.1.2.2.1),y59.1,e58.2.1.2.2.1.2.2.2.2.2.1,(⟨e58.2.1.2.2.1.2.2.2.2.2.2.1,e58.2.1.2.2.1.2.2.2.2.2.2.2.1,e58.2.1.2.2.1.2.2.2.2.2.2.2.2.1⟩:vz),(([]:List vB)++e58.2.1.1.2.2.2.2.2.2.2.2.2.1)⟩:qN),())) none) none
def F4[dL] :=FH 65 Tryz.f65 Tn Xb (λx=>FE x.1) [QA] [Vn] (by kernel_rfl) λx=>by simp only[FE,tm];kernel_rfl
abbrev Ql:LX:=⟨⟨[OJ,NS],[],[],0,19⟩,[(.ret,⟨[OJ,Qj],[],[],0,19⟩),(.ext 0,⟨[OJ,Pa],[],[],0,19⟩)],[],[0,3],[0,2]⟩
def I8(s:Zz×Unit×Unit):Ql.R:=
 br (decide (s.1.2.1< (s.1.1.length:Int))) (iteP (0<=s.1.2.1) ((s.1.1[s.1.2.1.toNat]?).bind λx3=>(Fn x3 0 3).bind λy4=>br (!y4.1) (some (.inr (.inl ((s.1.1,false,()),(()),(()))))) (some (.inl ((s.1.1,(IntKind.wrap .i64 (s.1.2.1+1)),()),(()),(()))))) none) (some (.inr (.inr ((s.1.1,(),()),(()),(())))))
def NR:=md I8
def UG[dL] :=HP Tryz.f159 [0] Ql I8 [FP] [] (by kernel_rfl) λs=>by simp only[I8,tm];kernel_rfl
def Hh(a0:List Int):Option (Bool×Unit):=
 (NR ((a0,0,()),(()),(()))).bind λe5=>Sum.elim (λe5_0=>some e5_0.1.2) (λe5_1=>some (((e5_1.1.1.length:Int)==5),())) e5
def NP[dL] :=FH 159 Tryz.f159 V5 [.b] (λx=>Hh x.1) [] [UG] (by kernel_rfl) λx=>by simp only[Hh,tm];kernel_rfl
abbrev OM:LX:=⟨⟨[OJ,NS],[],[],0,32⟩,[(.ret,⟨[Qj],[],[],0,32⟩),(.ext 0,⟨[Pa],[],[],0,32⟩)],[],[0,3],[2]⟩
def Gt(s:Zz×Unit×Unit):OM.R:=
 br (decide (s.1.2.1< (s.1.1.length:Int))) (iteP (0<=s.1.2.1) ((s.1.1[s.1.2.1.toNat]?).bind λx3=>(Fn x3 0 4).bind λy4=>br (!y4.1) (some (.inr (.inl ((false,()),(()),(()))))) (br (decide (s.1.2.1>0)) (iteP (0<=(IntKind.wrap .i64 (s.1.2.1-1))) ((s.1.1[(IntKind.wrap .i64 (s.1.2.1-1)).toNat]?).bind λx5=>iteP (0<=s.1.2.1) ((s.1.1[s.1.2.1.toNat]?).bind λx6=>br (decide (x5≥x6)) (some (.inr (.inl ((false,()),(()),(()))))) (some (.inl ((s.1.1,(IntKind.wrap .i64 (s.1.2.1+1)),()),(()),(()))))) none) none) (some (.inl ((s.1.1,(IntKind.wrap .i64 (s.1.2.1+1)),()),(()),(())))))) none) (some (.inr (.inr (((),()),(()),(())))))
def KA:=md Gt
def SH[dL] :=HP Tryz.f205 [0] OM Gt [FP] [] (by kernel_rfl) λs=>by simp only[Gt,tm];kernel_rfl
def Gd(a0:List Int):Option (Bool×Unit):=
 (KA ((a0,0,()),(()),(()))).bind λe7=>Sum.elim (λe7_0=>some e7_0.1) (λ_=>some (true,())) e7
def LV[dL] :=FH 205 Tryz.f205 V5 [.b] (λx=>Gd x.1) [] [SH] (by kernel_rfl) λx=>by simp only[Gd,tm];kernel_rfl
abbrev Ps:LX:=⟨⟨[OJ,KY,Ms],[],[],0,18⟩,[(.ret,⟨[Sv],[],[],0,18⟩),(.ext 0,⟨[Qe],[],[],0,18⟩)],[],[0,1,5],[4]⟩
def IA(s:ZA×Unit×Unit):Ps.R:=
 br (decide (s.1.2.2.1< (s.1.1.length:Int))) (iteP (0<=s.1.2.2.1) ((s.1.1[s.1.2.2.1.toNat]?).bind λx4=>br (x4==s.1.2.1) (some (.inr (.inl ((true,()),(()),(()))))) (some (.inl ((s.1.1,s.1.2.1,(IntKind.wrap .i64 (s.1.2.2.1+1)),()),(()),(()))))) none) (some (.inr (.inr (((),()),(()),(())))))
def MY:=md IA
def Tz[dL] :=HP Tryz.f127 [0] Ps IA [] [] (by kernel_rfl) λs=>by simp only[IA,tm];kernel_rfl
def FK(a0:List Int)(a1:Int):Option (Bool×Unit):=
 (MY ((a0,a1,0,()),(()),(()))).bind λe5=>Sum.elim (λe5_0=>some e5_0.1) (λ_=>some (false,())) e5
def G4[dL] :=FH 127 Tryz.f127 Vd [.b] (λx=>FK x.1 x.2.1) [] [Tz] (by kernel_rfl) λx=>by simp only[FK,tm];kernel_rfl
abbrev TP:LX:=⟨⟨[OJ,KY,Ms],[],[],0,47⟩,[(.ext 0,⟨[OJ,KY,Ms],[],[],0,47⟩)],[],[0,1,5],[0,1,5]⟩
def Jc(s:ZA×Unit×Unit):TP.R:=
 br (decide (s.1.2.2.1< (s.1.1.length:Int))) (iteP (0<=s.1.2.2.1) ((s.1.1[s.1.2.2.1.toNat]?).bind λx4=>br (decide (x4<s.1.2.1)) (some (.inl ((s.1.1,s.1.2.1,(IntKind.wrap .i64 (s.1.2.2.1+1)),()),(()),(())))) (some (.inr (s.1,(()),(()))))) none) (some (.inr (s.1,(()),(()))))
def QG:=md Jc
def Xh[dL] :=HP Tryz.f211 [0] TP Jc [] [] (by kernel_rfl) λs=>by simp only[Jc,tm];kernel_rfl
def HQ(a0:List Int)(a1:Int):Option ((List Int)×Unit):=
 (QG ((a0,a1,0,()),(()),(()))).bind λe5=>let j7:Option ((List Int)×Unit):=iteP (0<=(0:Int)/\(0:Int)<=e5.1.2.2.1/\e5.1.2.2.1<=(e5.1.1.length:Int)) (iteP ((([]:List Int)++((e5.1.1.drop (0:Int).toNat).take (e5.1.2.2.1.toNat-(0:Int).toNat))).length*8<=2 ^ 40) (iteP (((([]:List Int)++((e5.1.1.drop (0:Int).toNat).take (e5.1.2.2.1.toNat-(0:Int).toNat)))++([e5.1.2.1]:List Int)).length*8<=2 ^ 40) (iteP (0<=e5.1.2.2.1/\e5.1.2.2.1<=(e5.1.1.length:Int)/\(e5.1.1.length:Int)<=(e5.1.1.length:Int)) (iteP ((((([]:List Int)++((e5.1.1.drop (0:Int).toNat).take (e5.1.2.2.1.toNat-(0:Int).toNat)))++([e5.1.2.1]:List Int))++((e5.1.1.drop e5.1.2.2.1.toNat).take ((e5.1.1.length:Int).toNat-e5.1.2.2.1.toNat))).length*8<=2 ^ 40) (some ((((([]:List Int)++((e5.1.1.drop (0:Int).toNat).take (e5.1.2.2.1.toNat-(0:Int).toNat)))++([e5.1.2.1]:List Int))++((e5.1.1.drop e5.1.2.2.1.toNat).take ((e5.1.1.length:Int).toNat-e5.1.2.2.1.toNat))),())) none) none) none) none) none;br (decide (e5.1.2.2.1< (e5.1.1.length:Int))) (iteP (0<=e5.1.2.2.1) ((e5.1.1[e5.1.2.2.1.toNat]?).bind λx6=>br (x6==e5.1.2.1) (iteP ((([]:List Int)++e5.1.1).length*8<=2 ^ 40) (some ((([]:List Int)++e5.1.1),())) none) (j7)) none) (j7)
def NQ[dL] :=FH 211 Tryz.f211 Vd KG (λx=>HQ x.1 x.2.1) [] [Xh] (by kernel_rfl) λx=>by simp only[HQ,tm];kernel_rfl
abbrev MR:LX:=⟨⟨[OJ,Qf,Nw,MP],[],Ia,0,27⟩,[(.ext 0,⟨[Nw],[],Ia,0,27⟩)],[],[0,1,5,6],[5]⟩
def GS(s:aaa×Unit×List Int×Unit):MR.R:=
 br (decide (s.1.2.2.2.1< (s.1.1.length:Int))) (iteP (0<=s.1.2.2.2.1) ((s.1.1[s.1.2.2.2.1.toNat]?).bind λx5=>(FK s.1.2.1 x5).bind λy6=>br y6.1 (iteP (0<=s.1.2.2.2.1) ((s.1.1[s.1.2.2.2.1.toNat]?).bind λx7=>(HQ s.2.2.1 x7).bind λy8=>some (.inl ((s.1.1,s.1.2.1,(),(IntKind.wrap .i64 (s.1.2.2.2.1+1)),()),(()),y8.1,()))) none) (some (.inl ((s.1.1,s.1.2.1,(),(IntKind.wrap .i64 (s.1.2.2.2.1+1)),()),(()),s.2.2)))) none) (some (.inr (((),()),(()),s.2.2)))
def MO:=md GS
def Qr[dL] :=HP Tryz.f164 [0] MR GS [G4,NQ] [] (by kernel_rfl) λs=>by simp only[GS,tm];kernel_rfl
def GX(a0:List Int)(a1:List Int):Option ((List Int)×Unit):=
 (MO ((a0,a1,(),0,()),(()),([]:List Int),())).bind λe10=>some e10.2.2
def LB[dL] :=FH 164 Tryz.f164 UA KG (λx=>GX x.1 x.2.1) [] [Qr] (by kernel_rfl) λx=>by simp only[GX,tm];kernel_rfl
def Fk(a0:om):Option (Bool×Unit):=
 (Fn a0.epoch 1 20).bind λy1=>br y1.1 ((Gd a0.replicas).bind λy2=>br y2.1 ((Gd a0.witnesses).bind λy3=>br y3.1 ((FK a0.replicas a0.primary).bind λy4=>br y4.1 ((GX a0.replicas a0.witnesses).bind λy5=>some (((y5.1.length:Int)==0),())) (some (false,()))) (some (false,()))) (some (false,()))) (some (false,()))
def JI[dL] :=FH 148 Tryz.f148 V6 [.b] (λx=>Fk x.1) [FP,LV,G4,LB] [] (by kernel_rfl) λx=>by simp only[Fk,tm];kernel_rfl
abbrev N9:LX:=⟨⟨[J3,NS],[V9],[],0,35⟩,[(.ret,⟨[J3,Qj],[V9],[],0,35⟩),(.ext 0,⟨[J3,Pa],[V9],[],0,35⟩)],[],[1,3],[1,2]⟩
def FR(s:Sz×(Z9×Unit)×Unit):N9.R:=
 br (decide (s.1.2.1< (s.2.1.1.1.length:Int))) (iteP (0<=s.1.2.1) ((s.2.1.1.1[s.1.2.1.toNat]?).bind λx4=>(Fk x4).bind λy5=>br (!y5.1) (some (.inr (.inl (((),false,()),s.2.1,(()))))) (iteP (0<=s.1.2.1) ((s.2.1.1.1[s.1.2.1.toNat]?).bind λx6=>br (!(x6.epoch==(IntKind.wrap .i64 (s.1.2.1+1)))) (some (.inr (.inl (((),false,()),s.2.1,(()))))) (some (.inl (((),(IntKind.wrap .i64 (s.1.2.1+1)),()),s.2.1,(()))))) none)) none) (some (.inr (.inr (((),(),()),s.2.1,(())))))
def Iy:=md FR
def RE[dL] :=HP Tryz.f147 [0] N9 FR [JI] [] (by kernel_rfl) λs=>by simp only[FR,tm];kernel_rfl
def FU(a0:kB):Option (Bool×Unit):=
 (Iy (((),0,()),((a0.configs,a0.activated,()),()),(()))).bind λe7=>Sum.elim (λe7_0=>some e7_0.1.2) (λe7_1=>(Fn e7_1.2.1.1.2.1 0 (e7_1.2.1.1.1.length:Int)).bind λy8=>some (y8.1,())) e7
def Le[dL] :=FH 147 Tryz.f147 Xa [.b] (λx=>FU x.1) [FP] [RE] (by kernel_rfl) λx=>by simp only[FU,tm];kernel_rfl
def H3(a0:vz):Option (Bool×Unit):=
 br ((a0.epoch==0)&&((a0.holder==0)&&((a0.ends==0)&&true))) (some (true,())) ((Fn a0.epoch 1 20).bind λy1=>br y1.1 ((Fn a0.holder 0 4).bind λy2=>br y2.1 ((Fn a0.ends 1 1049).bind λy3=>some (y3.1,())) (some (false,()))) (some (false,())))
def Nk[dL] :=FH 144 Tryz.f144 XY [.b] (λx=>H3 x.1) [FP] [] (by kernel_rfl) λx=>by simp only[H3,tm];kernel_rfl
def FL(a0:Op):Option (Bool×Unit):=
 (Fn a0.client 0 2).bind λy1=>br (!y1.1) (some (false,())) ((Fn a0.seq 1 99).bind λy2=>br (!y2.1) (some (false,())) ((Fn a0.object 0 2).bind λy3=>br (!y3.1) (some (false,())) ((Fn a0.value 0 9).bind λy4=>br (!y4.1) (some (false,())) (br (a0.kind==1) (br (a0.old==0) (some (true,())) (br (a0.kind==2) ((Fn a0.old 0 9).bind λy5=>some (y5.1,())) (some (false,())))) (br (a0.kind==2) ((Fn a0.old 0 9).bind λy6=>some (y6.1,())) (some (false,())))))))
def Lu[dL] :=FH 181 Tryz.f181 Wv [.b] (λx=>FL x.1) [FP] [] (by kernel_rfl) λx=>by simp only[FL,tm];kernel_rfl
abbrev TO:LX:=⟨⟨[Pb,NS],[],[],0,47⟩,[(.ret,⟨[Pb,Qj],[],[],0,47⟩),(.ext 0,⟨[Pb,Pa],[],[],0,47⟩)],[],[0,3],[0,2]⟩
def I9(s:ZB×Unit×Unit):TO.R:=
 br (decide (s.1.2.1< (s.1.1.length:Int))) (iteP (0<=s.1.2.1) ((s.1.1[s.1.2.1.toNat]?).bind λx3=>(Fn x3.epoch 1 20).bind λy4=>br (!y4.1) (some (.inr (.inl ((s.1.1,false,()),(()),(()))))) (iteP (0<=s.1.2.1) ((s.1.1[s.1.2.1.toNat]?).bind λx5=>(FL x5.op).bind λy6=>br (!y6.1) (some (.inr (.inl ((s.1.1,false,()),(()),(()))))) (br (decide (s.1.2.1>0)) (iteP (0<=(IntKind.wrap .i64 (s.1.2.1-1))) ((s.1.1[(IntKind.wrap .i64 (s.1.2.1-1)).toNat]?).bind λx7=>iteP (0<=s.1.2.1) ((s.1.1[s.1.2.1.toNat]?).bind λx8=>br (decide (x7.epoch>x8.epoch)) (some (.inr (.inl ((s.1.1,false,()),(()),(()))))) (some (.inl ((s.1.1,(IntKind.wrap .i64 (s.1.2.1+1)),()),(()),(()))))) none) none) (some (.inl ((s.1.1,(IntKind.wrap .i64 (s.1.2.1+1)),()),(()),(())))))) none)) none) (some (.inr (.inr ((s.1.1,(),()),(()),(())))))
def Nr:=md I9
def Xg[dL] :=HP Tryz.f115 [0] TO I9 [FP,Lu] [] (by kernel_rfl) λs=>by simp only[I9,tm];kernel_rfl
def Gp(a0:List sf):Option (Bool×Unit):=
 (Nr ((a0,0,()),(()),(()))).bind λe9=>Sum.elim (λe9_0=>some e9_0.1.2) (λe9_1=>some ((decide ((e9_1.1.1.length:Int)<=16)),())) e9
def LW[dL] :=FH 115 Tryz.f115 QI [.b] (λx=>Gp x.1) [] [Xg] (by kernel_rfl) λx=>by simp only[Gp,tm];kernel_rfl
abbrev NA:LX:=⟨⟨[OJ,Qf,Ms],[],[],0,26⟩,[(.ret,⟨[Sv],[],[],0,26⟩),(.ext 0,⟨[Qe],[],[],0,26⟩)],[],[0,1,5],[4]⟩
def G6(s: (List Int×List Int×Int×Unit)×Unit×Unit):NA.R:=
 br (decide (s.1.2.2.1< (s.1.1.length:Int))) (iteP (0<=s.1.2.2.1) ((s.1.1[s.1.2.2.1.toNat]?).bind λx4=>iteP (0<=s.1.2.2.1) ((s.1.2.1[s.1.2.2.1.toNat]?).bind λx5=>br (!(x4==x5)) (some (.inr (.inl ((false,()),(()),(()))))) (some (.inl ((s.1.1,s.1.2.1,(IntKind.wrap .i64 (s.1.2.2.1+1)),()),(()),(()))))) none) none) (some (.inr (.inr (((),()),(()),(())))))
def KW:=md G6
def QP[dL] :=HP Tryz.f210 [0] NA G6 [] [] (by kernel_rfl) λs=>by simp only[G6,tm];kernel_rfl
def H1(a0:List Int)(a1:List Int):Option (Bool×Unit):=
 br (!((a0.length:Int)==(a1.length:Int))) (some (false,())) ((KW ((a0,a1,0,()),(()),(()))).bind λe6=>Sum.elim (λe6_0=>some e6_0.1) (λ_=>some (true,())) e6)
def R4[dL] :=FH 210 Tryz.f210 UA [.b] (λx=>H1 x.1 x.2.1) [] [QP] (by kernel_rfl) λx=>by simp only[H1,tm];kernel_rfl
def Gv(a0:om)(a1:om):Option (Bool×Unit):=
 br (a0.epoch==a1.epoch) (br (a0.primary==a1.primary) ((H1 a0.replicas a1.replicas).bind λy1=>br y1.1 ((H1 a0.witnesses a1.witnesses).bind λy2=>some (y2.1,())) (some (false,()))) (some (false,()))) (some (false,()))
def Ku[dL] :=FH 163 Tryz.f163 Zj [.b] (λx=>Gv x.1 x.2.1) [R4] [] (by kernel_rfl) λx=>by simp only[Gv,tm];kernel_rfl
def IK(a0:om):Option (Bool×Unit):=
 (Gv a0 (⟨0,0,([]:List Int),([]:List Int)⟩:om)).bind λy1=>some (y1.1,())
def O5[dL] :=FH 162 Tryz.f162 V6 [.b] (λx=>IK x.1) [Ku] [] (by kernel_rfl) λx=>by simp only[IK,tm];kernel_rfl
def JZ(a0:List sf):Option (Int×Unit):=
 br ((a0.length:Int)==0) (some (0,())) (iteP (0<=(IntKind.wrap .i64 ((a0.length:Int)-1))) ((a0[(IntKind.wrap .i64 ((a0.length:Int)-1)).toNat]?).bind λx1=>some (x1.epoch,())) none)
def QC[dL] :=FH 150 Tryz.f150 QI KB (λx=>JZ x.1) [] [] (by kernel_rfl) λx=>by simp only[JZ,tm];kernel_rfl
def GO(a0:om)(a1:Int):Option (Int×Unit):=
 (Fk a0).bind λy1=>br (!y1.1) (some (0,())) (br (a1==a0.primary) (some (1,())) ((FK a0.replicas a1).bind λy2=>br y2.1 (some (2,())) ((FK a0.witnesses a1).bind λy3=>br y3.1 (some (3,())) (some (0,())))))
def Nm[dL] :=FH 119 Tryz.f119 Zk KB (λx=>GO x.1 x.2.1) [JI,G4] [] (by kernel_rfl) λx=>by simp only[GO,tm];kernel_rfl
def FA(a0:qQ)(a1:Int):Option (Bool×Unit):=
 (Fn a0.version 1 2).bind λy1=>br (!y1.1) (some (false,())) ((Fn a0.epoch 0 20).bind λy2=>br (!y2.1) (some (false,())) ((Gp a0.log).bind λy3=>br (!y3.1) (some (false,())) ((Gp a0.learned).bind λy4=>br (!y4.1) (some (false,())) ((Fn a0.first 0 16).bind λy5=>br (!y5.1) (some (false,())) ((Fn (IntKind.wrap .i64 (a0.first+(a0.log.length:Int))) 0 16).bind λy6=>br (!y6.1) (some (false,())) ((Fn a0.commit 0 (IntKind.wrap .i64 (a0.first+(a0.log.length:Int)))).bind λy7=>br (!y7.1) (some (false,())) ((IK a0.config).bind λy8=>br y8.1 (br (a0.first==0) (br ((a0.log.length:Int)==0) (some ((a0.commit==0),())) (some (false,()))) (some (false,()))) (br (!a0.intact) (some (false,())) (br (decide (a0.epoch<a0.config.epoch)) (some (false,())) ((JZ a0.log).bind λy9=>br (decide (y9.1>a0.config.epoch)) (some (false,())) ((GO a0.config a1).bind λy10=>br (y10.1==0) (some (false,())) (br (y10.1==3) (br (decide ((a0.log.length:Int)<=3)) (br ((a0.log.length:Int)==3) (some (true,())) (some ((a0.first==0),()))) (some (false,()))) (some ((a0.first==0),()))))))))))))))
def NY[dL] :=FH 161 Tryz.f161 V7 [.b] (λx=>FA x.1 x.2.1) [FP,LW,O5,QC,Nm] [] (by kernel_rfl) λx=>by simp only[FA,tm];kernel_rfl
def Hi(a0:kB)(a1:Int):Option (om×Bool×Unit):=
 (FU a0).bind λy1=>br (!y1.1) (some ((⟨0,0,([]:List Int),([]:List Int)⟩:om),false,())) ((Fn a1 1 (a0.configs.length:Int)).bind λy2=>br (!y2.1) (some ((⟨0,0,([]:List Int),([]:List Int)⟩:om),false,())) (iteP (0<=(IntKind.wrap .i64 (a1-1))) ((a0.configs[(IntKind.wrap .i64 (a1-1)).toNat]?).bind λx3=>(H6 x3).bind λy4=>some (y4.1,true,())) none))
def PD[dL] :=FH 158 Tryz.f158 XZ Ye (λx=>Hi x.1 x.2.1) [Le,FP,OC] [] (by kernel_rfl) λx=>by simp only[Hi,tm];kernel_rfl
abbrev Mw:LX:=⟨⟨[J3,NS],[JP],[],0,123⟩,[(.ret,⟨[Qj],[],[],0,123⟩),(.ext 0,⟨[Pa],[],[],0,123⟩)],[],[1,3],[2]⟩
def Fw(s:Sz×(M1×Unit)×Unit):Mw.R:=
 br (decide (s.1.2.1< (s.2.1.1.2.1.length:Int))) (iteP (0<=s.1.2.1) ((s.2.1.1.2.1[s.1.2.1.toNat]?).bind λx18=>(FA x18 s.1.2.1).bind λy19=>br (!y19.1) (some (.inr (.inl ((false,()),(()),(()))))) (br (decide (x18.epoch>(s.2.1.1.2.2.2.1.length:Int))) (some (.inr (.inl ((false,()),(()),(()))))) ((JZ x18.learned).bind λy20=>br (decide (y20.1>s.2.1.1.2.2.2.2.1)) (some (.inr (.inl ((false,()),(()),(()))))) ((Hi (⟨s.2.1.1.2.2.2.1,s.2.1.1.2.2.2.2.1⟩:kB) x18.config.epoch).bind λy21=>(IK x18.config).bind λy22=>br (!y22.1) (br (!y21.2.1) (some (.inr (.inl ((false,()),(()),(()))))) ((Gv y21.1 x18.config).bind λy23=>br (!y23.1) (some (.inr (.inl ((false,()),(()),(()))))) (br (decide (x18.config.epoch>s.2.1.1.2.2.2.2.1)) (some (.inr (.inl ((false,()),(()),(()))))) (some (.inl (((),(IntKind.wrap .i64 (s.1.2.1+1)),()),s.2.1,(()))))))) (some (.inl (((),(IntKind.wrap .i64 (s.1.2.1+1)),()),s.2.1,(())))))))) none) (some (.inr (.inr (((),()),(()),(())))))
def Ir:=md Fw
def PO[dL] :=HP Tryz.f79 [0] Mw Fw [NY,QC,PD,O5,Ku] [] (by kernel_rfl) λs=>by simp only[Fw,tm];kernel_rfl
def Fi(a0:qN):Option (Bool×Unit):=
 (Fn a0.now 0 999).bind λy1=>br (!y1.1) (some (false,())) (br (!((a0.servers.length:Int)==5)) (some (false,())) ((Hh a0.sides).bind λy2=>br (!y2.1) (some (false,())) ((FU a0.master).bind λy3=>br (!y3.1) (some (false,())) ((Fn a0.masterUp 0 3).bind λy4=>br (!y4.1) (some (false,())) ((H3 a0.lease).bind λy5=>br (!y5.1) (some (false,())) ((FQ a0.places).bind λy6=>br (!y6.1) (some (false,())) (br (decide (a0.lease.epoch>a0.master.activated)) (some (false,())) ((Ir (((),0,()),((a0.now,a0.servers,a0.sides,a0.master.configs,a0.master.activated,a0.masterUp,a0.lease.epoch,a0.lease.holder,a0.lease.ends,a0.places,()),()),(()))).bind λe24=>Sum.elim (λe24_0=>some e24_0.1) (λ_=>some (true,())) e24))))))))
def Fo[dL] :=FH 79 Tryz.f79 Tn [.b] (λx=>Fi x.1) [FP,NP,Le,Nk,Lt] [PO] (by kernel_rfl) λx=>by simp only[Fi,tm];kernel_rfl
def Ni(a0:Int):Option (Bool×Bool×Bool×Unit):=
 br (a0==1) (some (true,false,false,())) (let j5 (p1:Bool):Option (Bool×Bool×Bool×Unit):=br p1 (some (true,false,false,())) (let j4 (p2:Bool):Option (Bool×Bool×Bool×Unit):=br p2 (some (true,false,true,())) (br (a0==4) (some (false,true,true,())) (br (a0==10) (some (false,false,true,())) (br (a0==11) (some (false,false,true,())) (br (a0==12) (some (true,true,true,())) (br (a0==16) (some (false,true,true,())) (some (false,false,false,())))))));br (a0==2) (j4 true) (br (a0==3) (j4 true) (j4 (a0==9))));br (a0==6) (j5 true) (br (a0==7) (j5 true) (br (a0==8) (j5 true) (br (a0==13) (j5 true) (br (a0==14) (j5 true) (j5 (a0==15)))))))
def W8[dL] :=FH 267 Tryz.f267 Uz [.b,.b,.b] (λx=>Ni x.1) [] [] (by kernel_rfl) λx=>by simp only[Ni,tm];kernel_rfl
def IW(a0:xx):Option (Bool×Unit):=
 (Fn a0.kind 1 16).bind λy1=>br (!y1.1) (some (false,())) ((Fn a0.server 0 4).bind λy2=>br (!y2.1) (some (false,())) ((Fn a0.other 0 4).bind λy3=>br (!y3.1) (some (false,())) ((Fn a0.n 0 999).bind λy4=>br (!y4.1) (some (false,())) ((Ni a0.kind).bind λy5=>let j7:Option (Bool×Unit):=br (a0.kind==1) ((FL a0.op).bind λy6=>some (y6.1,())) (some (((a0.op.client==0)&&((a0.op.seq==0)&&((a0.op.kind==0)&&((a0.op.object==0)&&((a0.op.old==0)&&((a0.op.value==0)&&true)))))),()));br (!y5.1) (br (!(a0.server==0)) (some (false,())) (br (!y5.2.1) (br (!(a0.other==0)) (some (false,())) (br (!y5.2.2.1) (br (!(a0.n==0)) (some (false,())) (j7)) (j7))) (br (!y5.2.2.1) (br (!(a0.n==0)) (some (false,())) (j7)) (j7)))) (br (!y5.2.1) (br (!(a0.other==0)) (some (false,())) (br (!y5.2.2.1) (br (!(a0.n==0)) (some (false,())) (j7)) (j7))) (br (!y5.2.2.1) (br (!(a0.n==0)) (some (false,())) (j7)) (j7)))))))
def R5[dL] :=FH 250 Tryz.f250 [.ty (.st .event)] [.b] (λx=>IW x.1) [FP,W8,Lu] [] (by kernel_rfl) λx=>by simp only[IW,tm];kernel_rfl
def FG(a0:qQ)(a1:Int):Option (Bool×Unit):=
 (FA a0 a1).bind λy1=>br y1.1 (br a0.up ((GO a0.config a1).bind λy2=>br (y2.1==1) (some ((a0.epoch==a0.config.epoch),())) (some (false,()))) (some (false,()))) (some (false,()))
def H9[dL] :=FH 109 Tryz.f109 V7 [.b] (λx=>FG x.1 x.2.1) [NY,Nm] [] (by kernel_rfl) λx=>by simp only[FG,tm];kernel_rfl
abbrev SA:LX:=⟨⟨[Pb,KY,Qg,MQ],[],[],0,33⟩,[(.ret,⟨[MP],[],[],0,33⟩),(.ext 0,⟨[X2],[],[],0,33⟩)],[],[0,1,2,7],[6]⟩
def KI(s: (List sf×Int×Int×Int×Unit)×Unit×Unit):SA.R:=
 br (decide (s.1.2.2.2.1< (s.1.1.length:Int))) (iteP (0<=s.1.2.2.2.1) ((s.1.1[s.1.2.2.2.1.toNat]?).bind λx5=>br (x5.op.client==s.1.2.1) (iteP (0<=s.1.2.2.2.1) ((s.1.1[s.1.2.2.2.1.toNat]?).bind λx6=>br (x6.op.seq==s.1.2.2.1) (some (.inr (.inl (s.1.2.2.2,(()),(()))))) (some (.inl ((s.1.1,s.1.2.1,s.1.2.2.1,(IntKind.wrap .i64 (s.1.2.2.2.1+1)),()),(()),(()))))) none) (some (.inl ((s.1.1,s.1.2.1,s.1.2.2.1,(IntKind.wrap .i64 (s.1.2.2.2.1+1)),()),(()),(()))))) none) (some (.inr (.inr (((),()),(()),(())))))
def V0:=md KI
def Wf[dL] :=HP Tryz.f269 [0] SA KI [] [] (by kernel_rfl) λs=>by simp only[KI,tm];kernel_rfl
def Na(a0:List sf)(a1:Int)(a2:Int):Option (Int×Unit):=
 (V0 ((a0,a1,a2,0,()),(()),(()))).bind λe7=>Sum.elim (λe7_0=>some e7_0.1) (λ_=>some ((-1),())) e7
def UZ[dL] :=FH 269 Tryz.f269 Zl KB (λx=>Na x.1 x.2.1 x.2.2.1) [] [Wf] (by kernel_rfl) λx=>by simp only[Na,tm];kernel_rfl
def LR:Option (nX×Unit):=
 some ((⟨([0,0,0]:List Int),([]:List nY)⟩:nX),())
def Un[dL] :=FH 114 Tryz.f114 [] [.st .machine] (λ_=>LR) [] [] (by kernel_rfl) λx=>by simp only[LR,tm];kernel_rfl
def Ou(a0:nX):Option (nX×Unit):=
 iteP ((([]:List Int)++a0.objects).length*8<=2 ^ 40) (iteP ((([]:List nY)++a0.sessions).length*32<=2 ^ 40) (some ((⟨(([]:List Int)++a0.objects),(([]:List nY)++a0.sessions)⟩:nX),())) none) none
def XT[dL] :=FH 182 Tryz.f182 [.ty (.st .machine)] [.st .machine] (λx=>Ou x.1) [] [] (by kernel_rfl) λx=>by simp only[Ou,tm];kernel_rfl
abbrev Mx:LX:=⟨⟨[J3,NS],[Wa],[],0,69⟩,[(.ret,⟨[J3,Qj],[Wa],[],0,69⟩),(.ext 0,⟨[J3,Pa],[Wa],[],0,69⟩)],[],[1,3],[1,2]⟩
def Ii(s:Sz×(aab×Unit)×Unit):Mx.R:=
 br (decide (s.1.2.1< (s.2.1.1.1.length:Int))) (iteP (0<=s.1.2.1) ((s.2.1.1.1[s.1.2.1.toNat]?).bind λx4=>(Fn x4 0 9).bind λy5=>br (!y5.1) (some (.inr (.inl (((),false,()),s.2.1,(()))))) (some (.inl (((),(IntKind.wrap .i64 (s.1.2.1+1)),()),s.2.1,(()))))) none) (some (.inr (.inr (((),(),()),s.2.1,(())))))
def PG:=md Ii
def PP[dL] :=HP Tryz.f183 [0] Mx Ii [FP] [] (by kernel_rfl) λs=>by simp only[Ii,tm];kernel_rfl
abbrev My:LX:=⟨⟨[J3,MH],[Wa],[],0,69⟩,[(.ret,⟨[J3,Qj],[Wa],[],0,69⟩),(.ext 2,⟨[J3,Pa],[Wa],[],0,69⟩)],[],[1,4],[1,2]⟩
def Ij(s:Sz×(aab×Unit)×Unit):My.R:=
 br (decide (s.1.2.1< (s.2.1.1.2.1.length:Int))) (iteP (0<=s.1.2.1) ((s.2.1.1.2.1[s.1.2.1.toNat]?).bind λx10=>(Fn x10.client 0 2).bind λy11=>br (!y11.1) (some (.inr (.inl (((),false,()),s.2.1,(()))))) ((Fn x10.seq 1 99).bind λy12=>br (!y12.1) (some (.inr (.inl (((),false,()),s.2.1,(()))))) ((Fn x10.result.value 0 9).bind λy13=>br (!y13.1) (some (.inr (.inl (((),false,()),s.2.1,(()))))) (br (decide (s.1.2.1>0)) (iteP (0<=(IntKind.wrap .i64 (s.1.2.1-1))) ((s.2.1.1.2.1[(IntKind.wrap .i64 (s.1.2.1-1)).toNat]?).bind λx14=>br (decide (x14.client≥x10.client)) (some (.inr (.inl (((),false,()),s.2.1,(()))))) (some (.inl (((),(IntKind.wrap .i64 (s.1.2.1+1)),()),s.2.1,(()))))) none) (some (.inl (((),(IntKind.wrap .i64 (s.1.2.1+1)),()),s.2.1,(())))))))) none) (some (.inr (.inr (((),(),()),s.2.1,(())))))
def Mm:=md Ij
def PQ[dL] :=HP Tryz.f183 [1] My Ij [FP] [] (by kernel_rfl) λs=>by simp only[Ij,tm];kernel_rfl
def He(a0:nX):Option (Bool×Unit):=
 (PG (((),0,()),((a0.objects,a0.sessions,()),()),(()))).bind λe6=>Sum.elim (λe6_0=>some e6_0.1.2) (λe6_1=>(Mm (((),0,()),e6_1.2.1,(()))).bind λe15=>Sum.elim (λe15_0=>some e15_0.1.2) (λe15_1=>some (((e15_1.2.1.1.1.length:Int)==3),())) e15) e6
def Nl[dL] :=FH 183 Tryz.f183 [.ty (.st .machine)] [.b] (λx=>He x.1) [] [PP,PQ] (by kernel_rfl) λx=>by simp only[He,tm];kernel_rfl
abbrev Pw:LX:=⟨⟨[KY,MZ,Qh,MP],[Wa,Yf],[],0,28⟩,[(.ret,⟨[OH,(5,.cl (.bl))],[Yf],[],0,28⟩),(.ext 0,⟨[OH,(5,.cl (.dead))],[Yf],[],0,28⟩)],[],[1,2,4,6],[4,5]⟩
def La(s: (Int×Unit×Unit×Int×Unit)×(aab×(Int×Int×Bool×Int×Unit)×Unit)×Unit):Pw.R:=
 br (decide (s.1.2.2.2.1< (s.2.1.1.2.1.length:Int))) (iteP (0<=s.1.2.2.2.1) ((s.2.1.1.2.1[s.1.2.2.2.1.toNat]?).bind λx9=>br (x9.client==s.1.1) (iteP (0<=s.1.2.2.2.1) ((s.2.1.1.2.1[s.1.2.2.2.1.toNat]?).bind λx10=>some (.inr (.inl (((),true,()),((x10.client,x10.seq,x10.result.done,x10.result.value,()),()),(()))))) none) (some (.inl ((s.1.1,(),(),(IntKind.wrap .i64 (s.1.2.2.2.1+1)),()),s.2.1,(()))))) none) (some (.inr (.inr (((),(),()),s.2.1.2,(())))))
def Tm:=md La
def TD[dL] :=HP Tryz.f184 [0] Pw La [] [] (by kernel_rfl) λs=>by simp only[La,tm];kernel_rfl
def Lm(a0:nX)(a1:Int):Option (nY×Bool×Unit):=
 (Tm ((a1,(),(),0,()),((a0.objects,a0.sessions,()),(0,0,false,0,()),()),(()))).bind λe11=>Sum.elim (λe11_0=>some ((⟨e11_0.2.1.1.1,e11_0.2.1.1.2.1,(⟨e11_0.2.1.1.2.2.1,e11_0.2.1.1.2.2.2.1⟩:Result)⟩:nY),e11_0.1.2)) (λ_=>some ((⟨0,0,(⟨false,0⟩:Result)⟩:nY),false,())) e11
def U4[dL] :=FH 184 Tryz.f184 Zm [.st .session,.b] (λx=>Lm x.1 x.2.1) [] [TD] (by kernel_rfl) λx=>by simp only[Lm,tm];kernel_rfl
abbrev Qk:LX:=⟨⟨[Sw,Qh,(5,.cl (.ptr 2 0)),X3,TK,(11,.cl (.ptr 4 0)),Po],[ZK,[.em,.em],WG,WH,WG],Y4,0,127⟩,[(.ext 0,⟨[Sw,Qh,(5,.cl (.ptr 2 0)),X3,TK,(11,.cl (.ptr 4 0)),Po],[ZK,[.em,.em],WG,WH,WG],Y4,0,127⟩)],[],[3,4,5,7,9,11,12],[3,4,5,7,9,11,12]⟩
def I7(s: (Unit×Unit×Unit×Unit×Bool×Unit×Int×Unit)×((Int×Int×Int×Int×Int×Int×Unit)×Yb×(Bool×Int×Unit)×Yb×(Bool×Int×Unit)×Unit)×List Int×List nY×Unit):Qk.R:=
 br (decide (s.1.2.2.2.2.2.2.1< (s.2.2.2.1.length:Int))) (iteP (0<=s.1.2.2.2.2.2.2.1/\s.1.2.2.2.2.2.2.1< (s.2.2.2.1.length:Int)) ((s.2.2.2.1[s.1.2.2.2.2.2.2.1.toNat]?).bind λx22=>br (decide (x22.client<s.2.1.1.1)) (some (.inl (((),(),(),(),s.1.2.2.2.2.1,(),(IntKind.wrap .i64 (s.1.2.2.2.2.2.2.1+1)),()),s.2))) (some (.inr s))) none) (some (.inr s))
def LY:=md I7
def UF[dL] :=HP Tryz.f116 [0] Qk I7 [] [] (by kernel_rfl) λs=>by simp only[I7,tm];kernel_rfl
def KK(a0:nX)(a1:Op):Option (nX×Result×Bool×Unit):=
 (Ou a0).bind λy1=>(He a0).bind λy2=>br (!y2.1) (some (y1.1,(⟨false,0⟩:Result),false,())) ((FL a1).bind λy3=>br (!y3.1) (some (y1.1,(⟨false,0⟩:Result),false,())) ((Lm a0 a1.client).bind λy4=>let j45:Option (nX×Result×Bool×Unit):=let j44:Option (nX×Result×Bool×Unit):=iteP (0<=a1.object) ((a0.objects[a1.object.toNat]?).bind λx5=>br (a1.kind==1) (iteP (0<=a1.object/\a1.object< (y1.1.objects.length:Int)) ((y1.1.objects[a1.object.toNat]?).bind λ_=>(LY (((),(),(),(),y4.2.1,(),0,()),((a1.client,a1.seq,a1.kind,a1.object,a1.old,a1.value,()),((),(),()),(false,0,()),((),(),()),(true,x5,()),()),(y1.1.objects.set a1.object.toNat a1.value),y1.1.sessions,())).bind λe23=>iteP (0<=e23.1.2.2.2.2.2.2.1/\e23.1.2.2.2.2.2.2.1<=(e23.2.2.2.1.length:Int)/\(e23.2.2.2.1.length:Int)<=((e23.2.2.2.1.length:Nat):Int)) (br e23.1.2.2.2.2.1 (iteP (0<=(IntKind.wrap .i64 (e23.1.2.2.2.2.2.2.1+1))/\(IntKind.wrap .i64 (e23.1.2.2.2.2.2.2.1+1))<=(e23.2.2.2.1.length:Int)/\(e23.2.2.2.1.length:Int)<=((e23.2.2.2.1.length:Nat):Int)) (iteP (0<=(0:Int)/\(0:Int)<=e23.1.2.2.2.2.2.2.1/\e23.1.2.2.2.2.2.2.1<=((e23.2.2.2.1.length:Nat):Int)) (iteP ((0+(0:Int).toNat)+(e23.1.2.2.2.2.2.2.1.toNat-(0:Int).toNat)<=e23.2.2.2.1.length) (iteP ((([]:List nY)++((e23.2.2.2.1.drop (0+(0:Int).toNat)).take (e23.1.2.2.2.2.2.2.1.toNat-(0:Int).toNat))).length*32<=2 ^ 40) (iteP (((([]:List nY)++((e23.2.2.2.1.drop (0+(0:Int).toNat)).take (e23.1.2.2.2.2.2.2.1.toNat-(0:Int).toNat)))++([(⟨e23.2.1.1.1,e23.2.1.1.2.1,(⟨e23.2.1.2.2.2.2.1.1,e23.2.1.2.2.2.2.1.2.1⟩:Result)⟩:nY)]:List nY)).length*32<=2 ^ 40) (iteP ((0+(IntKind.wrap .i64 (e23.1.2.2.2.2.2.2.1+1)).toNat)+((e23.2.2.2.1.length:Int).toNat-(IntKind.wrap .i64 (e23.1.2.2.2.2.2.2.1+1)).toNat)<=e23.2.2.2.1.length) (iteP ((((([]:List nY)++((e23.2.2.2.1.drop (0+(0:Int).toNat)).take (e23.1.2.2.2.2.2.2.1.toNat-(0:Int).toNat)))++([(⟨e23.2.1.1.1,e23.2.1.1.2.1,(⟨e23.2.1.2.2.2.2.1.1,e23.2.1.2.2.2.2.1.2.1⟩:Result)⟩:nY)]:List nY))++((e23.2.2.2.1.drop (0+(IntKind.wrap .i64 (e23.1.2.2.2.2.2.2.1+1)).toNat)).take ((e23.2.2.2.1.length:Int).toNat-(IntKind.wrap .i64 (e23.1.2.2.2.2.2.2.1+1)).toNat))).length*32<=2 ^ 40) (some ((⟨e23.2.2.1,(((([]:List nY)++((e23.2.2.2.1.drop (0+(0:Int).toNat)).take (e23.1.2.2.2.2.2.2.1.toNat-(0:Int).toNat)))++([(⟨e23.2.1.1.1,e23.2.1.1.2.1,(⟨e23.2.1.2.2.2.2.1.1,e23.2.1.2.2.2.2.1.2.1⟩:Result)⟩:nY)]:List nY))++((e23.2.2.2.1.drop (0+(IntKind.wrap .i64 (e23.1.2.2.2.2.2.2.1+1)).toNat)).take ((e23.2.2.2.1.length:Int).toNat-(IntKind.wrap .i64 (e23.1.2.2.2.2.2.2.1+1)).toNat)))⟩:nX),(⟨e23.2.1.2.2.2.2.1.1,e23.2.1.2.2.2.2.1.2.1⟩:Result),true,())) none) none) none) none) none) none) none) (iteP (0<=(0:Int)/\(0:Int)<=e23.1.2.2.2.2.2.2.1/\e23.1.2.2.2.2.2.2.1<=((e23.2.2.2.1.length:Nat):Int)) (iteP ((0+(0:Int).toNat)+(e23.1.2.2.2.2.2.2.1.toNat-(0:Int).toNat)<=e23.2.2.2.1.length) (iteP ((([]:List nY)++((e23.2.2.2.1.drop (0+(0:Int).toNat)).take (e23.1.2.2.2.2.2.2.1.toNat-(0:Int).toNat))).length*32<=2 ^ 40) (iteP (((([]:List nY)++((e23.2.2.2.1.drop (0+(0:Int).toNat)).take (e23.1.2.2.2.2.2.2.1.toNat-(0:Int).toNat)))++([(⟨e23.2.1.1.1,e23.2.1.1.2.1,(⟨e23.2.1.2.2.2.2.1.1,e23.2.1.2.2.2.2.1.2.1⟩:Result)⟩:nY)]:List nY)).length*32<=2 ^ 40) (iteP ((0+e23.1.2.2.2.2.2.2.1.toNat)+((e23.2.2.2.1.length:Int).toNat-e23.1.2.2.2.2.2.2.1.toNat)<=e23.2.2.2.1.length) (iteP ((((([]:List nY)++((e23.2.2.2.1.drop (0+(0:Int).toNat)).take (e23.1.2.2.2.2.2.2.1.toNat-(0:Int).toNat)))++([(⟨e23.2.1.1.1,e23.2.1.1.2.1,(⟨e23.2.1.2.2.2.2.1.1,e23.2.1.2.2.2.2.1.2.1⟩:Result)⟩:nY)]:List nY))++((e23.2.2.2.1.drop (0+e23.1.2.2.2.2.2.2.1.toNat)).take ((e23.2.2.2.1.length:Int).toNat-e23.1.2.2.2.2.2.2.1.toNat))).length*32<=2 ^ 40) (some ((⟨e23.2.2.1,(((([]:List nY)++((e23.2.2.2.1.drop (0+(0:Int).toNat)).take (e23.1.2.2.2.2.2.2.1.toNat-(0:Int).toNat)))++([(⟨e23.2.1.1.1,e23.2.1.1.2.1,(⟨e23.2.1.2.2.2.2.1.1,e23.2.1.2.2.2.2.1.2.1⟩:Result)⟩:nY)]:List nY))++((e23.2.2.2.1.drop (0+e23.1.2.2.2.2.2.2.1.toNat)).take ((e23.2.2.2.1.length:Int).toNat-e23.1.2.2.2.2.2.2.1.toNat)))⟩:nX),(⟨e23.2.1.2.2.2.2.1.1,e23.2.1.2.2.2.2.1.2.1⟩:Result),true,())) none) none) none) none) none) none)) none) none) (let j43 (p26:List Int):Option (nX×Result×Bool×Unit):=(LY (((),(),(),(),y4.2.1,(),0,()),((a1.client,a1.seq,a1.kind,a1.object,a1.old,a1.value,()),((),(),()),(false,0,()),((),(),()),((x5==a1.old),x5,()),()),p26,y1.1.sessions,())).bind λe42=>iteP (0<=e42.1.2.2.2.2.2.2.1/\e42.1.2.2.2.2.2.2.1<=(e42.2.2.2.1.length:Int)/\(e42.2.2.2.1.length:Int)<=((e42.2.2.2.1.length:Nat):Int)) (br e42.1.2.2.2.2.1 (iteP (0<=(IntKind.wrap .i64 (e42.1.2.2.2.2.2.2.1+1))/\(IntKind.wrap .i64 (e42.1.2.2.2.2.2.2.1+1))<=(e42.2.2.2.1.length:Int)/\(e42.2.2.2.1.length:Int)<=((e42.2.2.2.1.length:Nat):Int)) (iteP (0<=(0:Int)/\(0:Int)<=e42.1.2.2.2.2.2.2.1/\e42.1.2.2.2.2.2.2.1<=((e42.2.2.2.1.length:Nat):Int)) (iteP ((0+(0:Int).toNat)+(e42.1.2.2.2.2.2.2.1.toNat-(0:Int).toNat)<=e42.2.2.2.1.length) (iteP ((([]:List nY)++((e42.2.2.2.1.drop (0+(0:Int).toNat)).take (e42.1.2.2.2.2.2.2.1.toNat-(0:Int).toNat))).length*32<=2 ^ 40) (iteP (((([]:List nY)++((e42.2.2.2.1.drop (0+(0:Int).toNat)).take (e42.1.2.2.2.2.2.2.1.toNat-(0:Int).toNat)))++([(⟨e42.2.1.1.1,e42.2.1.1.2.1,(⟨e42.2.1.2.2.2.2.1.1,e42.2.1.2.2.2.2.1.2.1⟩:Result)⟩:nY)]:List nY)).length*32<=2 ^ 40) (iteP ((0+(IntKind.wrap .i64 (e42.1.2.2.2.2.2.2.1+1)).toNat)+((e42.2.2.2.1.length:Int).toNat-(IntKind.wrap .i64 (e42.1.2.2.2.2.2.2.1+1)).toNat)<=e42.2.2.2.1.length) (iteP ((((([]:List nY)++((e42.2.2.2.1.drop (0+(0:Int).toNat)).take (e42.1.2.2.2.2.2.2.1.toNat-(0:Int).toNat)))++([(⟨e42.2.1.1.1,e42.2.1.1.2.1,(⟨e42.2.1.2.2.2.2.1.1,e42.2.1.2.2.2.2.1.2.1⟩:Result)⟩:nY)]:List nY))++((e42.2.2.2.1.drop (0+(IntKind.wrap .i64 (e42.1.2.2.2.2.2.2.1+1)).toNat)).take ((e42.2.2.2.1.length:Int).toNat-(IntKind.wrap .i64 (e42.1.2.2.2.2.2.2.1+1)).toNat))).length*32<=2 ^ 40) (some ((⟨e42.2.2.1,(((([]:List nY)++((e42.2.2.2.1.drop (0+(0:Int).toNat)).take (e42.1.2.2.2.2.2.2.1.toNat-(0:Int).toNat)))++([(⟨e42.2.1.1.1,e42.2.1.1.2.1,(⟨e42.2.1.2.2.2.2.1.1,e42.2.1.2.2.2.2.1.2.1⟩:Result)⟩:nY)]:List nY))++((e42.2.2.2.1.drop (0+(IntKind.wrap .i64 (e42.1.2.2.2.2.2.2.1+1)).toNat)).take ((e42.2.2.2.1.length:Int).toNat-(IntKind.wrap .i64 (e42.1.2.2.2.2.2.2.1+1)).toNat)))⟩:nX),(⟨e42.2.1.2.2.2.2.1.1,e42.2.1.2.2.2.2.1.2.1⟩:Result),true,())) none) none) none) none) none) none) none) (iteP (0<=(0:Int)/\(0:Int)<=e42.1.2.2.2.2.2.2.1/\e42.1.2.2.2.2.2.2.1<=((e42.2.2.2.1.length:Nat):Int)) (iteP ((0+(0:Int).toNat)+(e42.1.2.2.2.2.2.2.1.toNat-(0:Int).toNat)<=e42.2.2.2.1.length) (iteP ((([]:List nY)++((e42.2.2.2.1.drop (0+(0:Int).toNat)).take (e42.1.2.2.2.2.2.2.1.toNat-(0:Int).toNat))).length*32<=2 ^ 40) (iteP (((([]:List nY)++((e42.2.2.2.1.drop (0+(0:Int).toNat)).take (e42.1.2.2.2.2.2.2.1.toNat-(0:Int).toNat)))++([(⟨e42.2.1.1.1,e42.2.1.1.2.1,(⟨e42.2.1.2.2.2.2.1.1,e42.2.1.2.2.2.2.1.2.1⟩:Result)⟩:nY)]:List nY)).length*32<=2 ^ 40) (iteP ((0+e42.1.2.2.2.2.2.2.1.toNat)+((e42.2.2.2.1.length:Int).toNat-e42.1.2.2.2.2.2.2.1.toNat)<=e42.2.2.2.1.length) (iteP ((((([]:List nY)++((e42.2.2.2.1.drop (0+(0:Int).toNat)).take (e42.1.2.2.2.2.2.2.1.toNat-(0:Int).toNat)))++([(⟨e42.2.1.1.1,e42.2.1.1.2.1,(⟨e42.2.1.2.2.2.2.1.1,e42.2.1.2.2.2.2.1.2.1⟩:Result)⟩:nY)]:List nY))++((e42.2.2.2.1.drop (0+e42.1.2.2.2.2.2.2.1.toNat)).take ((e42.2.2.2.1.length:Int).toNat-e42.1.2.2.2.2.2.2.1.toNat))).length*32<=2 ^ 40) (some ((⟨e42.2.2.1,(((([]:List nY)++((e42.2.2.2.1.drop (0+(0:Int).toNat)).take (e42.1.2.2.2.2.2.2.1.toNat-(0:Int).toNat)))++([(⟨e42.2.1.1.1,e42.2.1.1.2.1,(⟨e42.2.1.2.2.2.2.1.1,e42.2.1.2.2.2.2.1.2.1⟩:Result)⟩:nY)]:List nY))++((e42.2.2.2.1.drop (0+e42.1.2.2.2.2.2.2.1.toNat)).take ((e42.2.2.2.1.length:Int).toNat-e42.1.2.2.2.2.2.2.1.toNat)))⟩:nX),(⟨e42.2.1.2.2.2.2.1.1,e42.2.1.2.2.2.2.1.2.1⟩:Result),true,())) none) none) none) none) none) none)) none;br (x5==a1.old) (iteP (0<=a1.object/\a1.object< (y1.1.objects.length:Int)) ((y1.1.objects[a1.object.toNat]?).bind λ_=>j43 (y1.1.objects.set a1.object.toNat a1.value)) none) (j43 y1.1.objects))) none;br y4.2.1 (br (decide (y4.1.seq>a1.seq)) (some (y1.1,(⟨false,0⟩:Result),false,())) (j44)) (j44);br y4.2.1 (br (y4.1.seq==a1.seq) (some (y1.1,y4.1.result,true,())) (j45)) (j45)))
def Qx[dL] :=FH 116 Tryz.f116 [.ty (.st .machine),.ty (.st .op)] [.st .machine,.st .result,.b] (λx=>KK x.1 x.2.1) [XT,Nl,Lu,U4] [UF] (by kernel_rfl) λx=>by simp only[KK,tm];kernel_rfl
abbrev Pt:LX:=⟨⟨[Pb,MZ,Qh,Ms],[[.em,.em],WH],Y4,0,29⟩,[(.ext 0,⟨[MZ,Qh],[[.em,.em],WH],Y4,0,29⟩)],[],[0,2,4,5],[2,4]⟩
def K8(s: (List sf×Unit×Unit×Int×Unit)×(Yb×Yb×Unit)×List Int×List nY×Unit):Pt.R:=
 br (decide (s.1.2.2.2.1< (s.1.1.length:Int))) (iteP (0<=s.1.2.2.2.1) ((s.1.1[s.1.2.2.2.1.toNat]?).bind λx7=>(KK (⟨s.2.2.1,s.2.2.2.1⟩:nX) x7.op).bind λy8=>some (.inl ((s.1.1,(),(),(IntKind.wrap .i64 (s.1.2.2.2.1+1)),()),(((),(),()),((),(),()),()),y8.1.objects,y8.1.sessions,()))) none) (some (.inr (((),(),()),s.2)))
def Tj:=md K8
def TB[dL] :=HP Tryz.f39 [0] Pt K8 [Qx] [] (by kernel_rfl) λs=>by simp only[K8,tm];kernel_rfl
def IZ(a0:List sf):Option (nX×Bool×Unit):=
 (LR).bind λy1=>(Gp a0).bind λy2=>br (!y2.1) (some ((⟨([]:List Int),([]:List nY)⟩:nX),false,())) ((Tj ((a0,(),(),0,()),(((),(),()),((),(),()),()),y1.1.objects,y1.1.sessions,())).bind λe9=>some ((⟨e9.2.2.1,e9.2.2.2.1⟩:nX),true,()))
def OB[dL] :=FH 39 Tryz.f39 QI [.st .machine,.b] (λx=>IZ x.1) [Un,LW] [TB] (by kernel_rfl) λx=>by simp only[IZ,tm];kernel_rfl
def IJ(a0:Op):Option (Bool×Unit):=
 some ((a0.kind==2),())
def Pi[dL] :=FH 204 Tryz.f204 Wv [.b] (λx=>IJ x.1) [] [] (by kernel_rfl) λx=>by simp only[IJ,tm];kernel_rfl
def Gx(a0:qN)(a1:Int):Option (Bool×Unit):=
 (Fi a0).bind λy1=>br y1.1 ((Fn a1 0 4).bind λy2=>br y2.1 (iteP (0<=a1) ((a0.servers[a1.toNat]?).bind λx3=>(FG x3 a1).bind λy4=>some (y4.1,())) none) (some (false,()))) (some (false,()))
def Kv[dL] :=FH 112 Tryz.f112 LD [.b] (λx=>Gx x.1 x.2.1) [Fo,FP,H9] [] (by kernel_rfl) λx=>by simp only[Gx,tm];kernel_rfl
abbrev NC:LX:=⟨⟨[OJ,Qf,Nw,MP],[],Ia,0,34⟩,[(.ext 0,⟨[Qf,Nw],[],Ia,0,34⟩)],[],[0,1,5,6],[1,5]⟩
def G7(s:aaa×Unit×List Int×Unit):NC.R:=
 br (decide (s.1.2.2.2.1< (s.1.1.length:Int))) (iteP (0<=s.1.2.2.2.1) ((s.1.1[s.1.2.2.2.1.toNat]?).bind λx5=>(HQ s.2.2.1 x5).bind λy6=>some (.inl ((s.1.1,s.1.2.1,(),(IntKind.wrap .i64 (s.1.2.2.2.1+1)),()),(()),y6.1,()))) none) (some (.inr ((s.1.2.1,(),()),(()),s.2.2)))
def Ns:=md G7
def QR[dL] :=HP Tryz.f192 [0] NC G7 [NQ] [] (by kernel_rfl) λs=>by simp only[G7,tm];kernel_rfl
abbrev ND:LX:=⟨⟨[Qf,Nw,MQ],[],Ia,0,34⟩,[(.ext 2,⟨[Nw],[],Ia,0,34⟩)],[],[1,5,7],[5]⟩
def G8(s:ZC×Unit×List Int×Unit):ND.R:=
 br (decide (s.1.2.2.1< (s.1.1.length:Int))) (iteP (0<=s.1.2.2.1) ((s.1.1[s.1.2.2.1.toNat]?).bind λx11=>(HQ s.2.2.1 x11).bind λy12=>some (.inl ((s.1.1,(),(IntKind.wrap .i64 (s.1.2.2.1+1)),()),(()),y12.1,()))) none) (some (.inr (((),()),(()),s.2.2)))
def Nt:=md G8
def QS[dL] :=HP Tryz.f192 [1] ND G8 [NQ] [] (by kernel_rfl) λs=>by simp only[G8,tm];kernel_rfl
def H5(a0:List Int)(a1:List Int):Option ((List Int)×Unit):=
 (Ns ((a0,a1,(),0,()),(()),([]:List Int),())).bind λe7=>(Nt ((e7.1.1,(),0,()),(()),e7.2.2)).bind λe13=>some e13.2.2
def Sb[dL] :=FH 192 Tryz.f192 UA KG (λx=>H5 x.1 x.2.1) [] [QR,QS] (by kernel_rfl) λx=>by simp only[H5,tm];kernel_rfl
def FX(a0:om):Option ((List Int)×Unit):=
 (Fk a0).bind λy1=>br (!y1.1) (some (([]:List Int),())) ((H5 a0.replicas a0.witnesses).bind λy2=>some (y2.1,()))
def I3[dL] :=FH 120 Tryz.f120 V6 KG (λx=>FX x.1) [JI,Sb] [] (by kernel_rfl) λx=>by simp only[FX,tm];kernel_rfl
abbrev N8:LX:=⟨⟨[MZ,Ms,Wx,MQ],[JP],Ia,0,37⟩,[(.ext 0,⟨[Ms],[],[],0,37⟩)],[],[2,5,6,7],[5]⟩
def GV(s:ZD×(M1×Unit)×List Int×Unit):N8.R:=
 br (decide (s.1.2.2.2.1< (s.2.2.1.length:Int))) (iteP (0<=s.1.2.2.2.1/\s.1.2.2.2.1< (s.2.2.1.length:Int)) ((s.2.2.1[s.1.2.2.2.1.toNat]?).bind λx17=>iteP (0<=x17) ((s.2.1.1.2.1[x17.toNat]?).bind λx18=>some (.inl (((),(if x18.version<s.1.2.1 then x18.version else s.1.2.1),(),(IntKind.wrap .i64 (s.1.2.2.2.1+1)),()),s.2))) none) none) (some (.inr ((s.1.2.1,()),(()),(()))))
def N2:=md GV
def RD[dL] :=HP Tryz.f50 [0] N8 GV [] [] (by kernel_rfl) λs=>by simp only[GV,tm];kernel_rfl
def GN(a0:qN)(a1:Int):Option (Int×Unit):=
 (Gx a0 a1).bind λy1=>br (!y1.1) (some (0,())) (iteP (0<=a1) ((a0.servers[a1.toNat]?).bind λx2=>(FX x2.config).bind λy3=>(N2 (((),2,(),0,()),((a0.now,a0.servers,a0.sides,a0.master.configs,a0.master.activated,a0.masterUp,a0.lease.epoch,a0.lease.holder,a0.lease.ends,a0.places,()),()),y3.1,())).bind λe19=>some e19.1) none)
def Ph[dL] :=FH 50 Tryz.f50 LD KB (λx=>GN x.1 x.2.1) [Kv,I3] [RD] (by kernel_rfl) λx=>by simp only[GN,tm];kernel_rfl
def HC(a0:qN)(a1:Int)(a2:Op):Option (qN×Int×Unit):=
 (FE a0).bind λy1=>(Fi a0).bind λy2=>br (!y2.1) (some (y1.1,1,())) ((Fn a1 0 4).bind λy3=>br (!y3.1) (some (y1.1,1,())) ((FL a2).bind λy4=>br (!y4.1) (some (y1.1,1,())) (iteP (0<=a1) ((a0.servers[a1.toNat]?).bind λx5=>br (!x5.up) (some (y1.1,2,())) ((FG x5 a1).bind λy6=>br (!y6.1) (some (y1.1,3,())) ((Na x5.log a2.client a2.seq).bind λy7=>let j18:Option (qN×Int×Unit):=(IZ x5.log).bind λy9=>(KK y9.1 a2).bind λy10=>br (!y10.2.2.1) (some (y1.1,11,())) ((IJ a2).bind λy11=>let j17:Option (qN×Int×Unit):=iteP (0<=a1/\a1< (y1.1.servers.length:Int)) ((y1.1.servers[a1.toNat]?).bind λx13=>(y1.1.servers[a1.toNat]?).bind λx14=>iteP ((0:Nat)=0) (iteP (x14.log.length<x13.log.length) none (iteP ((x14.log.take x13.log.length++([(⟨x5.epoch,a2⟩:sf)]:List sf)).length*56<=2 ^ 40) (iteP (0<=a1/\a1< (y1.1.servers.length:Int)) ((y1.1.servers[a1.toNat]?).bind λx15=>iteP (a1.toNat=a1.toNat) (some ((⟨y1.1.now,(y1.1.servers.set a1.toNat (⟨x15.up,x15.intact,x15.version,x15.epoch,x15.config,x15.first,(x14.log.take x13.log.length++([(⟨x5.epoch,a2⟩:sf)]:List sf)),x15.commit,x15.learned⟩:qQ)),y1.1.sides,y1.1.master,y1.1.masterUp,y1.1.lease,y1.1.places⟩:qN),0,())) none) none) none)) none) none;br y11.1 ((GN a0 a1).bind λy12=>br (decide (y12.1<2)) (some (y1.1,6,())) (br ((x5.log.length:Int)==16) (some (y1.1,5,())) (j17))) (br ((x5.log.length:Int)==16) (some (y1.1,5,())) (j17)));br (decide (y7.1≥0)) (iteP (0<=y7.1) ((x5.log[y7.1.toNat]?).bind λx8=>br (!((x8.op.client==a2.client)&&((x8.op.seq==a2.seq)&&((x8.op.kind==a2.kind)&&((x8.op.object==a2.object)&&((x8.op.old==a2.old)&&((x8.op.value==a2.value)&&true))))))) (some (y1.1,11,())) (br (decide (y7.1≥0)) (some (y1.1,0,())) (j18))) none) (br (decide (y7.1≥0)) (some (y1.1,0,())) (j18))))) none)))
def P5[dL] :=FH 268 Tryz.f268 Zn Oc (λx=>HC x.1 x.2.1 x.2.2.1) [F4,Fo,FP,Lu,H9,UZ,OB,Qx,Pi,Ph] [] (by kernel_rfl) λx=>by simp only[HC,tm,-eq_self];kernel_rfl
def Gw(a0:List Int)(a1:Int)(a2:Int):Option (Bool×Unit):=
 (Hh a0).bind λy1=>br y1.1 ((Fn a1 0 4).bind λy2=>br y2.1 ((Fn a2 0 4).bind λy3=>br y3.1 (iteP (0<=a1) ((a0[a1.toNat]?).bind λx4=>iteP (0<=a2) ((a0[a2.toNat]?).bind λx5=>some ((x4==x5),())) none) none) (some (false,()))) (some (false,()))) (some (false,()))
def KR[dL] :=FH 97 Tryz.f97 X0 [.b] (λx=>Gw x.1 x.2.1 x.2.2.1) [NP,FP] [] (by kernel_rfl) λx=>by simp only[Gw,tm];kernel_rfl
def HM(a0:qN)(a1:Int)(a2:Int):Option (Bool×Unit):=
 iteP (0<=a2) ((a0.servers[a2.toNat]?).bind λx1=>(Gw a0.sides a1 a2).bind λy2=>br y2.1 (br x1.up (iteP (0<=a1) ((a0.servers[a1.toNat]?).bind λx3=>br (x1.epoch==x3.epoch) (iteP (0<=a1) ((a0.servers[a1.toNat]?).bind λx4=>br (decide (x1.commit<=(x4.log.length:Int))) (iteP (0<=a1) ((a0.servers[a1.toNat]?).bind λx5=>(Gv x1.config x5.config).bind λy6=>some (y6.1,())) none) (some (false,()))) none) (some (false,()))) none) (some (false,()))) (some (false,()))) none
def Sc[dL] :=FH 128 Tryz.f128 Rz [.b] (λx=>HM x.1 x.2.1 x.2.2.1) [KR,Ku] [] (by kernel_rfl) λx=>by simp only[HM,tm];kernel_rfl
def O0(a0:List sf):Option (Int×(List sf)×Unit):=
 (Gp a0).bind λy1=>br (!y1.1) (some (0,([]:List sf),())) (iteP (0<=(if (IntKind.wrap .i64 ((a0.length:Int)-3))>0 then (IntKind.wrap .i64 ((a0.length:Int)-3)) else 0)/\(if (IntKind.wrap .i64 ((a0.length:Int)-3))>0 then (IntKind.wrap .i64 ((a0.length:Int)-3)) else 0)<=(a0.length:Int)/\(a0.length:Int)<=(a0.length:Int)) ((GP ((a0.drop (if (IntKind.wrap .i64 ((a0.length:Int)-3))>0 then (IntKind.wrap .i64 ((a0.length:Int)-3)) else 0).toNat).take ((a0.length:Int).toNat-(if (IntKind.wrap .i64 ((a0.length:Int)-3))>0 then (IntKind.wrap .i64 ((a0.length:Int)-3)) else 0).toNat))).bind λy2=>some ((if (IntKind.wrap .i64 ((a0.length:Int)-3))>0 then (IntKind.wrap .i64 ((a0.length:Int)-3)) else 0),y2.1,())) none)
def WZ[dL] :=FH 197 Tryz.f197 QI Yc (λx=>O0 x.1) [LW,Ju] [] (by kernel_rfl) λx=>by simp only[O0,tm];kernel_rfl
def Ot(a0:List sf):Option (Int×(List sf)×Unit):=
 (O0 a0).bind λy1=>some (y1.1,y1.2.1,())
def XR[dL] :=FH 129 Tryz.f129 QI Yc (λx=>Ot x.1) [WZ] [] (by kernel_rfl) λx=>by simp only[Ot,tm];kernel_rfl
def FB(a0:qN)(a1:Int)(a2:Int):Option (qN×Bool×Unit):=
 (FE a0).bind λy1=>(Gx a0 a1).bind λy2=>br (!y2.1) (some (y1.1,false,())) (iteP (0<=a1) ((a0.servers[a1.toNat]?).bind λx3=>(FX x3.config).bind λy4=>(FK y4.1 a2).bind λy5=>br (!y5.1) (some (y1.1,false,())) ((HM a0 a1 a2).bind λy6=>br (!y6.1) (some (y1.1,false,())) (iteP (0<=a1) ((a0.servers[a1.toNat]?).bind λx7=>iteP (0<=a1) ((a0.servers[a1.toNat]?).bind λx8=>(GO x8.config a2).bind λy9=>br (y9.1==3) ((Ot x7.log).bind λy10=>iteP (0<=a2/\a2< (y1.1.servers.length:Int)) (iteP (0<=a2/\a2< (y1.1.servers.length:Int)) ((y1.1.servers[a2.toNat]?).bind λx11=>let z12:=y1.1.servers.set a2.toNat (⟨x11.up,x11.intact,x11.version,x11.epoch,x11.config,y10.1,x11.log,x11.commit,x11.learned⟩:qQ);(z12[a2.toNat]?).bind λx13=>some ((⟨y1.1.now,(z12.set a2.toNat (⟨x13.up,x13.intact,x13.version,x13.epoch,x13.config,x13.first,y10.2.1,x13.commit,x13.learned⟩:qQ)),y1.1.sides,y1.1.master,y1.1.masterUp,y1.1.lease,y1.1.places⟩:qN),true,())) none) none) ((GP x7.log).bind λy15=>iteP (0<=a2/\a2< (y1.1.servers.length:Int)) ((y1.1.servers[a2.toNat]?).bind λx16=>some ((⟨y1.1.now,(y1.1.servers.set a2.toNat (⟨x16.up,x16.intact,x16.version,x16.epoch,x16.config,x16.first,y15.1,x16.commit,x16.learned⟩:qQ)),y1.1.sides,y1.1.master,y1.1.masterUp,y1.1.lease,y1.1.places⟩:qN),true,())) none)) none) none))) none)
def OA[dL] :=FH 54 Tryz.f54 Rz Y1 (λx=>FB x.1 x.2.1 x.2.2.1) [F4,Kv,I3,G4,Sc,Nm,XR,Ju] [] (by kernel_rfl) λx=>by simp only[FB,tm];kernel_rfl
abbrev KD:LX:=⟨⟨[KY,OH,Nx,Vf,Qi,(9,.cl (.int .i64))],[Lx,To],Vh,0,74⟩,[(.ext 0,⟨[KY,OH,Nx,Vf,Qi],[Lx,To],Vh,0,74⟩)],[],[1,4,6,7,8,9],[1,4,6,7,8]⟩
def F6(s:X9×(LF×LF×Unit)×List Int×List qQ×List Int×List om×List vB×Unit):KD.R:=
 br (decide (s.1.2.2.2.2.2.1< (s.2.2.1.length:Int))) (iteP (0<=s.1.2.2.2.2.2.1/\s.1.2.2.2.2.2.1< (s.2.2.1.length:Int)) ((s.2.2.1[s.1.2.2.2.2.2.1.toNat]?).bind λx25=>(FB (⟨s.2.1.2.1.1,s.2.2.2.1,s.2.2.2.2.1,(⟨s.2.2.2.2.2.1,s.2.1.2.1.2.2.2.2.1⟩:kB),s.2.1.2.1.2.2.2.2.2.1,(⟨s.2.1.2.1.2.2.2.2.2.2.1,s.2.1.2.1.2.2.2.2.2.2.2.1,s.2.1.2.1.2.2.2.2.2.2.2.2.1⟩:vz),s.2.2.2.2.2.2.1⟩:qN) s.1.1 x25).bind λy26=>let j28 (p27:Bool):KD.R:=some (.inl ((s.1.1,(),(),(),p27,(IntKind.wrap .i64 (s.1.2.2.2.2.2.1+1)),()),(s.2.1.1,(y26.1.now,(),(),(),y26.1.master.activated,y26.1.masterUp,y26.1.lease.epoch,y26.1.lease.holder,y26.1.lease.ends,(),()),()),s.2.2.1,y26.1.servers,y26.1.sides,y26.1.master.configs,y26.1.places,()));br s.1.2.2.2.2.1 (j28 y26.2.1) (j28 false)) none) (some (.inr ((s.1.1,(),(),(),s.1.2.2.2.2.1,()),s.2)))
def MN:=md F6
def Qq[dL] :=HP Tryz.f46 [0] KD F6 [OA] [] (by kernel_rfl) λs=>by simp only[F6,tm];kernel_rfl
abbrev Mv:LX:=⟨⟨[KY,OH,Nx,Vf,Qi,Po],[Lx,To],Vh,0,74⟩,[(.ext 2,⟨[OH,Nx,Qi],[Lx,Tp],Vi,0,74⟩)],[],[1,4,6,7,8,12],[4,6,8]⟩
def FN(s:X9×(LF×LF×Unit)×List Int×List qQ×List Int×List om×List vB×Unit):Mv.R:=
 br (decide (s.1.2.2.2.2.2.1< (s.2.2.1.length:Int))) (br s.1.2.2.2.2.1 (iteP (0<=s.1.2.2.2.2.2.1/\s.1.2.2.2.2.2.1< (s.2.2.1.length:Int)) ((s.2.2.1[s.1.2.2.2.2.2.1.toNat]?).bind λx50=>iteP (0<=s.1.1/\s.1.1< (s.2.2.2.1.length:Int)) ((s.2.2.2.1[s.1.1.toNat]?).bind λx51=>iteP (0<=x50/\x50< (s.2.2.2.1.length:Int)) ((s.2.2.2.1[x50.toNat]?).bind λx52=>some (.inl ((s.1.1,(),(),(),s.1.2.2.2.2.1,(IntKind.wrap .i64 (s.1.2.2.2.2.2.1+1)),()),s.2.1,s.2.2.1,(s.2.2.2.1.set x50.toNat (⟨x52.up,x52.intact,x52.version,x52.epoch,x52.config,x52.first,x52.log,((x51.log.length:Nat):Int),x52.learned⟩:qQ)),s.2.2.2.2))) none) none) none) (some (.inr (((),(),s.1.2.2.2.2.1,()),s.2.1,s.2.2.2)))) (some (.inr (((),(),s.1.2.2.2.2.1,()),s.2.1,s.2.2.2)))
def JO:=md FN
def PN[dL] :=HP Tryz.f46 [1] Mv FN [] [] (by kernel_rfl) λs=>by simp only[FN,tm];kernel_rfl
def FF(a0:qN)(a1:Int):Option (qN×Bool×Unit):=
 (FE a0).bind λy1=>(Gx a0 a1).bind λy2=>br (!y2.1) (some (y1.1,false,())) (iteP (0<=a1) ((a0.servers[a1.toNat]?).bind λx3=>(FX x3.config).bind λy4=>(MN ((a1,(),(),(),true,0,()),((0,(),(),(),0,0,0,0,0,(),()),(y1.1.now,(),(),(),y1.1.master.activated,y1.1.masterUp,y1.1.lease.epoch,y1.1.lease.holder,y1.1.lease.ends,(),()),()),y4.1,y1.1.servers,y1.1.sides,y1.1.master.configs,y1.1.places,())).bind λe29=>(JO ((e29.1.1,(),(),(),e29.1.2.2.2.2.1,0,()),e29.2)).bind λe54=>some ((⟨e54.2.1.2.1.1,e54.2.2.1,e54.2.2.2.1,(⟨e54.2.2.2.2.1,e54.2.1.2.1.2.2.2.2.1⟩:kB),e54.2.1.2.1.2.2.2.2.2.1,(⟨e54.2.1.2.1.2.2.2.2.2.2.1,e54.2.1.2.1.2.2.2.2.2.2.2.1,e54.2.1.2.1.2.2.2.2.2.2.2.2.1⟩:vz),e54.2.2.2.2.2.1⟩:qN),e54.1.2.2)) none)
def LA[dL] :=FH 46 Tryz.f46 LD Y1 (λx=>FF x.1 x.2.1) [F4,Kv,I3] [Qq,PN] (by kernel_rfl) λx=>by simp only[FF,tm];kernel_rfl
def KN(a0:List sf)(a1:Int):Option (Result×Bool×Unit):=
 (Gp a0).bind λy1=>br (!y1.1) (some ((⟨false,0⟩:Result),false,())) ((Fn a1 0 (IntKind.wrap .i64 ((a0.length:Int)-1))).bind λy2=>br (!y2.1) (some ((⟨false,0⟩:Result),false,())) (iteP (0<=(0:Int)/\(0:Int)<=a1/\a1<=(a0.length:Int)) ((IZ ((a0.drop (0:Int).toNat).take (a1.toNat-(0:Int).toNat))).bind λy3=>iteP (0<=a1) ((a0[a1.toNat]?).bind λx4=>(KK y3.1 x4.op).bind λy5=>some (y5.2.1,y5.2.2.1,())) none) none))
def VS[dL] :=FH 270 Tryz.f270 X1 [.st .result,.b] (λx=>KN x.1 x.2.1) [LW,FP,OB,Qx] [] (by kernel_rfl) λx=>by simp only[KN,tm];kernel_rfl
def L8(a0:qN)(a1:Int)(a2:Op):Option (qN×xB×Unit):=
 (HC a0 a1 a2).bind λy1=>br (!(y1.2.1==0)) (some (y1.1,(⟨y1.2.1,(⟨false,0⟩:Result),0⟩:xB),())) (iteP (0<=a1/\a1< (y1.1.servers.length:Int)) ((y1.1.servers[a1.toNat]?).bind λx2=>(y1.1.servers[a1.toNat]?).bind λx3=>iteP (0+x2.log.length<=x3.log.length) ((Na ((x3.log.drop 0).take x2.log.length) a2.client a2.seq).bind λy4=>iteP (0<=a1/\a1< (y1.1.servers.length:Int)) ((y1.1.servers[a1.toNat]?).bind λx5=>br (decide (y4.1≥x5.commit)) ((FF y1.1 a1).bind λy6=>br (!y6.2.1) (some (y6.1,(⟨4,(⟨false,0⟩:Result),0⟩:xB),())) (iteP (0<=a1/\a1< (y6.1.servers.length:Int)) ((y6.1.servers[a1.toNat]?).bind λx20=>(y6.1.servers[a1.toNat]?).bind λx21=>iteP (0+x20.log.length<=x21.log.length) ((KN ((x21.log.drop 0).take x20.log.length) y4.1).bind λy22=>some (y6.1,(⟨0,y22.1,y4.1⟩:xB),())) none) none)) (iteP (0<=a1/\a1< (y1.1.servers.length:Int)) ((y1.1.servers[a1.toNat]?).bind λx23=>(y1.1.servers[a1.toNat]?).bind λx24=>iteP (0+x23.log.length<=x24.log.length) ((KN ((x24.log.drop 0).take x23.log.length) y4.1).bind λy25=>some (y1.1,(⟨0,y25.1,y4.1⟩:xB),())) none) none)) none) none) none)
def VL[dL] :=FH 251 Tryz.f251 Zn ZI (λx=>L8 x.1 x.2.1 x.2.2.1) [P5,UZ,LA,VS] [] (by kernel_rfl) λx=>by simp only[L8,tm];kernel_rfl
def J0(a0:qN)(a1:Int):Option (Int×Unit):=
 (Fi a0).bind λy1=>br (!y1.1) (some (1,())) ((Fn a1 0 4).bind λy2=>br (!y2.1) (some (1,())) (iteP (0<=a1) ((a0.servers[a1.toNat]?).bind λx3=>br (!x3.up) (some (2,())) (some (0,()))) none))
def Q5[dL] :=FH 108 Tryz.f108 LD KB (λx=>J0 x.1 x.2.1) [Fo,FP] [] (by kernel_rfl) λx=>by simp only[J0,tm];kernel_rfl
def Ki(a0:vz)(a1:Int)(a2:Int)(a3:Int):Option (Bool×Unit):=
 (H3 a0).bind λy1=>br y1.1 ((Fn a3 0 999).bind λy2=>br y2.1 (br (decide (a0.ends>0)) (br (a0.epoch==a1) (br (a0.holder==a2) (some ((decide ((IntKind.wrap .i64 (a3+3))<a0.ends)),())) (some (false,()))) (some (false,()))) (some (false,()))) (some (false,()))) (some (false,()))
def Ui[dL] :=FH 113 Tryz.f113 [.ty (.st .lease),.ty (.i .i64),.ty (.i .i64),.ty (.i .i64)] [.b] (λx=>Ki x.1 x.2.1 x.2.2.1 x.2.2.2.1) [Nk,FP] [] (by kernel_rfl) λx=>by simp only[Ki,tm];kernel_rfl
def HZ(a0:qN)(a1:Int):Option (Bool×Unit):=
 (Gx a0 a1).bind λy1=>br y1.1 (iteP (0<=a1) ((a0.servers[a1.toNat]?).bind λx2=>(Ki a0.lease x2.config.epoch a1 a0.now).bind λy3=>some (y3.1,())) none) (some (false,()))
def Qy[dL] :=FH 38 Tryz.f38 LD [.b] (λx=>HZ x.1 x.2.1) [Kv,Ui] [] (by kernel_rfl) λx=>by simp only[HZ,tm];kernel_rfl
def FZ(a0:qQ):Option ((List sf)×Unit):=
 (Fn a0.commit a0.first (IntKind.wrap .i64 (a0.first+(a0.log.length:Int)))).bind λy1=>br (!y1.1) (some (([]:List sf),())) (br (decide (a0.first<0)) (some (([]:List sf),())) (iteP (0<=(0:Int)/\(0:Int)<=(IntKind.wrap .i64 (a0.commit-a0.first))/\(IntKind.wrap .i64 (a0.commit-a0.first))<=(a0.log.length:Int)) ((GP ((a0.log.drop (0:Int).toNat).take ((IntKind.wrap .i64 (a0.commit-a0.first)).toNat-(0:Int).toNat))).bind λy2=>some (y2.1,())) none))
def JH[dL] :=FH 40 Tryz.f40 Vc Xc (λx=>FZ x.1) [FP,Ju] [] (by kernel_rfl) λx=>by simp only[FZ,tm];kernel_rfl
def Kn(a0:nX)(a1:Int):Option (Int×Bool×Unit):=
 (He a0).bind λy1=>br (!y1.1) (some (0,false,())) ((Fn a1 0 2).bind λy2=>br (!y2.1) (some (0,false,())) (iteP (0<=a1) ((a0.objects[a1.toNat]?).bind λx3=>some (x3,true,())) none))
def Uo[dL] :=FH 180 Tryz.f180 Zm [.i .i64,.b] (λx=>Kn x.1 x.2.1) [Nl,FP] [] (by kernel_rfl) λx=>by simp only[Kn,tm];kernel_rfl
def Mf(a0:qQ)(a1:Int):Option (xB×Unit):=
 (FZ a0).bind λy1=>(IZ y1.1).bind λy2=>(Kn y2.1 a1).bind λy3=>some ((⟨0,(⟨true,y3.1⟩:Result),a0.commit⟩:xB),())
def VV[dL] :=FH 110 Tryz.f110 V7 [.st .reply] (λx=>Mf x.1 x.2.1) [JH,OB,Uo] [] (by kernel_rfl) λx=>by simp only[Mf,tm];kernel_rfl
def Li(a0:qN)(a1:Int)(a2:Int):Option (xB×Unit):=
 (J0 a0 a1).bind λy1=>br (!(y1.1==0)) (some ((⟨y1.1,(⟨false,0⟩:Result),0⟩:xB),())) ((Fn a2 0 2).bind λy2=>br (!y2.1) (some ((⟨1,(⟨false,0⟩:Result),0⟩:xB),())) (iteP (0<=a1) ((a0.servers[a1.toNat]?).bind λx3=>(FG x3 a1).bind λy4=>br (!y4.1) (some ((⟨3,(⟨false,0⟩:Result),0⟩:xB),())) ((HZ a0 a1).bind λy5=>br (!y5.1) (some ((⟨7,(⟨false,0⟩:Result),0⟩:xB),())) (iteP (0<=a1) ((a0.servers[a1.toNat]?).bind λx6=>(Mf x6 a2).bind λy7=>some (y7.1,())) none))) none))
def U1[dL] :=FH 36 Tryz.f36 Rz [.st .reply] (λx=>Li x.1 x.2.1 x.2.2.1) [Q5,FP,H9,Qy,VV] [] (by kernel_rfl) λx=>by simp only[Li,tm];kernel_rfl
def KO(a0:vz):Option (Int×Unit):=
 (H3 a0).bind λy1=>br (!y1.1) (some (0,())) (br (a0.ends==0) (some (0,())) (some ((IntKind.wrap .i64 (a0.ends+3)),())))
def Sa[dL] :=FH 145 Tryz.f145 XY KB (λx=>KO x.1) [Nk] [] (by kernel_rfl) λx=>by simp only[KO,tm];kernel_rfl
def HK(a0:vz)(a1:Int):Option (Bool×Unit):=
 (H3 a0).bind λy1=>br y1.1 ((Fn a1 0 999).bind λy2=>br y2.1 ((KO a0).bind λy3=>some ((decide (a1≥y3.1)),())) (some (false,()))) (some (false,()))
def Pj[dL] :=FH 66 Tryz.f66 [.ty (.st .lease),.ty (.i .i64)] [.b] (λx=>HK x.1 x.2.1) [Nk,FP,Sa] [] (by kernel_rfl) λx=>by simp only[HK,tm];kernel_rfl
def Kh(a0:vz)(a1:Int)(a2:Int)(a3:Int)(a4:Int):Option (vz×Bool×Unit):=
 br (a0.epoch==a1) ((H3 a0).bind λy1=>br (!y1.1) (some (a0,false,())) ((Fn a1 1 20).bind λy2=>br (!y2.1) (some (a0,false,())) ((Fn a2 0 4).bind λy3=>br (!y3.1) (some (a0,false,())) ((Fn a3 0 999).bind λy4=>br (!y4.1) (some (a0,false,())) ((Fn a4 1 50).bind λy5=>br (!y5.1) (some (a0,false,())) ((HK a0 a3).bind λy6=>br (!y6.1) (br (!(a0.holder==a2)) (some (a0,false,())) (br (a0.holder==a2) (some ((⟨a1,a2,(if a0.ends>(IntKind.wrap .i64 (a3+a4)) then a0.ends else (IntKind.wrap .i64 (a3+a4)))⟩:vz),true,())) (some ((⟨a1,a2,(IntKind.wrap .i64 (a3+a4))⟩:vz),true,())))) (br (a0.holder==a2) (some ((⟨a1,a2,(if a0.ends>(IntKind.wrap .i64 (a3+a4)) then a0.ends else (IntKind.wrap .i64 (a3+a4)))⟩:vz),true,())) (some ((⟨a1,a2,(IntKind.wrap .i64 (a3+a4))⟩:vz),true,()))))))))) ((H3 a0).bind λy10=>br (!y10.1) (some (a0,false,())) ((Fn a1 1 20).bind λy11=>br (!y11.1) (some (a0,false,())) ((Fn a2 0 4).bind λy12=>br (!y12.1) (some (a0,false,())) ((Fn a3 0 999).bind λy13=>br (!y13.1) (some (a0,false,())) ((Fn a4 1 50).bind λy14=>br (!y14.1) (some (a0,false,())) ((HK a0 a3).bind λy15=>br (!y15.1) (br (!false) (some (a0,false,())) (some ((⟨a1,a2,(IntKind.wrap .i64 (a3+a4))⟩:vz),true,()))) (some ((⟨a1,a2,(IntKind.wrap .i64 (a3+a4))⟩:vz),true,()))))))))
def Uh[dL] :=FH 292 Tryz.f292 [.ty (.st .lease),.ty (.i .i64),.ty (.i .i64),.ty (.i .i64),.ty (.i .i64)] [.st .lease,.b] (λx=>Kh x.1 x.2.1 x.2.2.1 x.2.2.2.1 x.2.2.2.2.1) [Nk,FP,Pj] [] (by kernel_rfl) λx=>by simp only[Kh,tm];kernel_rfl
def Jg(a0:qN)(a1:Int)(a2:Int):Option (qN×Int×Unit):=
 (FE a0).bind λy1=>(J0 a0 a1).bind λy2=>br (!(y2.1==0)) (some (y1.1,y2.1,())) (iteP (0<=a1) ((a0.servers[a1.toNat]?).bind λx3=>(FG x3 a1).bind λy4=>br (!y4.1) (some (y1.1,3,())) (br (decide ((IntKind.wrap .i64 (a0.masterUp*2))<=3)) (some (y1.1,8,())) (iteP (0<=a1) ((a0.sides[a1.toNat]?).bind λx5=>br (!(x5==0)) (some (y1.1,8,())) (br (!(x3.config.epoch==(a0.master.configs.length:Int))) (some (y1.1,11,())) ((Kh a0.lease x3.config.epoch a1 a0.now a2).bind λy6=>br (!y6.2.1) (some (y1.1,7,())) (some ((⟨y1.1.now,y1.1.servers,y1.1.sides,y1.1.master,y1.1.masterUp,y6.1,y1.1.places⟩:qN),0,()))))) none))) none)
def P8[dL] :=FH 271 Tryz.f271 Rz Oc (λx=>Jg x.1 x.2.1 x.2.2.1) [F4,Q5,H9,Uh] [] (by kernel_rfl) λx=>by simp only[Jg,tm];kernel_rfl
abbrev Px:LX:=⟨⟨[J3,Rb,MH],[JP],Ia,0,28⟩,[(.ext 0,⟨[Rb],[],Ia,0,28⟩)],[],[1,3,4],[3]⟩
def IB(s:V8×(M1×Unit)×List Int×Unit):Px.R:=
 br (decide (s.1.2.2.1< (s.2.1.1.2.1.length:Int))) ((Fi (⟨s.2.1.1.1,s.2.1.1.2.1,s.2.1.1.2.2.1,(⟨s.2.1.1.2.2.2.1,s.2.1.1.2.2.2.2.1⟩:kB),s.2.1.1.2.2.2.2.2.1,(⟨s.2.1.1.2.2.2.2.2.2.1,s.2.1.1.2.2.2.2.2.2.2.1,s.2.1.1.2.2.2.2.2.2.2.2.1⟩:vz),s.2.1.1.2.2.2.2.2.2.2.2.2.1⟩:qN)).bind λy13=>br y13.1 (iteP (0<=s.1.2.2.1) ((s.2.1.1.2.1[s.1.2.2.1.toNat]?).bind λx14=>br x14.up (iteP ((s.2.2.1++([s.1.2.2.1]:List Int)).length*8<=2 ^ 40) (some (.inl (((),(),(IntKind.wrap .i64 (s.1.2.2.1+1)),()),s.2.1,(s.2.2.1++([s.1.2.2.1]:List Int)),()))) none) (some (.inl (((),(),(IntKind.wrap .i64 (s.1.2.2.1+1)),()),s.2)))) none) (some (.inr (((),()),(()),s.2.2)))) (some (.inr (((),()),(()),s.2.2)))
def Pn:=md IB
def TE[dL] :=HP Tryz.f165 [0] Px IB [Fo] [] (by kernel_rfl) λs=>by simp only[IB,tm];kernel_rfl
def Lo(a0:qN):Option ((List Int)×Unit):=
 (Pn (((),(),0,()),((a0.now,a0.servers,a0.sides,a0.master.configs,a0.master.activated,a0.masterUp,a0.lease.epoch,a0.lease.holder,a0.lease.ends,a0.places,()),()),([]:List Int),())).bind λe16=>some e16.2.2
def U6[dL] :=FH 165 Tryz.f165 Tn KG (λx=>Lo x.1) [] [TE] (by kernel_rfl) λx=>by simp only[Lo,tm];kernel_rfl
abbrev OQ:LX:=⟨⟨[OJ,Rb,MH],[],Ia,0,26⟩,[(.ext 0,⟨[Rb],[],Ia,0,26⟩)],[],[0,3,4],[3]⟩
def HU(s:ZC×Unit×List Int×Unit):OQ.R:=
 br (decide (s.1.2.2.1< (s.1.1.length:Int))) ((Hh s.1.1).bind λy4=>br y4.1 (iteP (0<=s.1.2.2.1) ((s.1.1[s.1.2.2.1.toNat]?).bind λx5=>br (x5==0) (iteP ((s.2.2.1++([s.1.2.2.1]:List Int)).length*8<=2 ^ 40) (some (.inl ((s.1.1,(),(IntKind.wrap .i64 (s.1.2.2.1+1)),()),(()),(s.2.2.1++([s.1.2.2.1]:List Int)),()))) none) (some (.inl ((s.1.1,(),(IntKind.wrap .i64 (s.1.2.2.1+1)),()),(()),s.2.2)))) none) (some (.inr (((),()),(()),s.2.2)))) (some (.inr (((),()),(()),s.2.2)))
def OG:=md HU
def SM[dL] :=HP Tryz.f166 [0] OQ HU [NP] [] (by kernel_rfl) λs=>by simp only[HU,tm];kernel_rfl
def Kj(a0:List Int):Option ((List Int)×Unit):=
 (OG ((a0,(),0,()),(()),([]:List Int),())).bind λe7=>some e7.2.2
def Uk[dL] :=FH 166 Tryz.f166 V5 KG (λx=>Kj x.1) [] [SM] (by kernel_rfl) λx=>by simp only[Kj,tm];kernel_rfl
def Mg(a0:qN):Option ((List Int)×Unit):=
 (Lo a0).bind λy1=>(Kj a0.sides).bind λy2=>(GX y1.1 y2.1).bind λy3=>some (y3.1,())
def VW[dL] :=FH 81 Tryz.f81 Tn KG (λx=>Mg x.1) [U6,Uk,LB] [] (by kernel_rfl) λx=>by simp only[Mg,tm];kernel_rfl
def F0(a0:kB):Option (om×Bool×Unit):=
 (Hi a0 a0.activated).bind λy1=>some (y1.1,y1.2.1,())
def GY[dL] :=FH 78 Tryz.f78 Xa Ye (λx=>F0 x.1) [PD] [] (by kernel_rfl) λx=>by simp only[F0,tm];kernel_rfl
abbrev MC:LX:=⟨⟨[OJ,Qf,Nw,MP],[],Ia,0,28⟩,[(.ext 0,⟨[Nw],[],Ia,0,28⟩)],[],[0,1,5,6],[5]⟩
def GL(s:aaa×Unit×List Int×Unit):MC.R:=
 br (decide (s.1.2.2.2.1< (s.1.1.length:Int))) (iteP (0<=s.1.2.2.2.1) ((s.1.1[s.1.2.2.2.1.toNat]?).bind λx5=>(FK s.1.2.1 x5).bind λy6=>br (!y6.1) (iteP (0<=s.1.2.2.2.1) ((s.1.1[s.1.2.2.2.1.toNat]?).bind λx7=>(HQ s.2.2.1 x7).bind λy8=>some (.inl ((s.1.1,s.1.2.1,(),(IntKind.wrap .i64 (s.1.2.2.2.1+1)),()),(()),y8.1,()))) none) (some (.inl ((s.1.1,s.1.2.1,(),(IntKind.wrap .i64 (s.1.2.2.2.1+1)),()),(()),s.2.2)))) none) (some (.inr (((),()),(()),s.2.2)))
def Mn:=md GL
def PS[dL] :=HP Tryz.f254 [0] MC GL [G4,NQ] [] (by kernel_rfl) λs=>by simp only[GL,tm];kernel_rfl
def F3(a0:List Int)(a1:List Int):Option ((List Int)×Unit):=
 (Mn ((a0,a1,(),0,()),(()),([]:List Int),())).bind λe10=>some e10.2.2
def KS[dL] :=FH 254 Tryz.f254 UA KG (λx=>F3 x.1 x.2.1) [] [PS] (by kernel_rfl) λx=>by simp only[F3,tm];kernel_rfl
abbrev Rf:LX:=⟨⟨[Q9,Qf,Nw,MP],[],Ia,0,33⟩,[(.ext 0,⟨[Nw],[],Ia,0,33⟩)],[],[0,1,5,6],[5]⟩
def MJ(s: (List vB×List Int×Unit×Int×Unit)×Unit×List Int×Unit):Rf.R:=
 br (decide (s.1.2.2.2.1< (s.1.2.1.length:Int))) ((FQ s.1.1).bind λy5=>br y5.1 ((Gd s.1.2.1).bind λy6=>br y6.1 (iteP (0<=s.1.2.2.2.1) ((s.1.2.1[s.1.2.2.2.1.toNat]?).bind λx7=>iteP (0<=x7) ((s.1.1[x7.toNat]?).bind λx8=>(HQ s.2.2.1 x8.rack).bind λy9=>some (.inl ((s.1.1,s.1.2.1,(),(IntKind.wrap .i64 (s.1.2.2.2.1+1)),()),(()),y9.1,()))) none) none) (some (.inr (((),()),(()),s.2.2)))) (some (.inr (((),()),(()),s.2.2)))) (some (.inr (((),()),(()),s.2.2)))
def Vb:=md MJ
def Vl[dL] :=HP Tryz.f302 [0] Rf MJ [Lt,LV,NQ] [] (by kernel_rfl) λs=>by simp only[MJ,tm];kernel_rfl
def Nc(a0:List vB)(a1:List Int):Option ((List Int)×Unit):=
 (Vb ((a0,a1,(),0,()),(()),([]:List Int),())).bind λe10=>some e10.2.2
def W4[dL] :=FH 302 Tryz.f302 [.ty (.ls (.st .place)),.ty (.ls (.i .i64))] KG (λx=>Nc x.1 x.2.1) [] [Vl] (by kernel_rfl) λx=>by simp only[Nc,tm];kernel_rfl
def Nb(a0:List vB)(a1:Int):Option (Bool×Unit):=
 (FQ a0).bind λy1=>br y1.1 ((Fn a1 0 4).bind λy2=>br y2.1 (iteP (0<=a1) ((a0[a1.toNat]?).bind λx3=>iteP (0<=a1) ((a0[a1.toNat]?).bind λx4=>some ((decide (x3.load<x4.capacity)),())) none) none) (some (false,()))) (some (false,()))
def W3[dL] :=FH 303 Tryz.f303 [.ty (.ls (.st .place)),.ty (.i .i64)] [.b] (λx=>Nb x.1 x.2.1) [Lt,FP] [] (by kernel_rfl) λx=>by simp only[Nb,tm];kernel_rfl
def Mi(a0:List vB)(a1:List Int)(a2:Int)(a3:Int):Option (Bool×Unit):=
 iteP (0<=a2) ((a0[a2.toNat]?).bind λx1=>(FK a1 x1.rack).bind λy2=>iteP (0<=a3) ((a0[a3.toNat]?).bind λx3=>(FK a1 x3.rack).bind λy4=>br (!(y2.1==y4.1)) (some (y4.1,())) (iteP (0<=a2) ((a0[a2.toNat]?).bind λx5=>iteP (0<=a3) ((a0[a3.toNat]?).bind λx6=>some ((decide (x5.load<x6.load)),())) none) none)) none) none
def VY[dL] :=FH 304 Tryz.f304 [.ty (.ls (.st .place)),.ty (.ls (.i .i64)),.ty (.i .i64),.ty (.i .i64)] [.b] (λx=>Mi x.1 x.2.1 x.2.2.1 x.2.2.2.1) [G4] [] (by kernel_rfl) λx=>by simp only[Mi,tm];kernel_rfl
abbrev M5:LX:=⟨⟨[Q9,Qf,(2,.cl (.ro (.i .i64))),MQ,Wy,(9,.cl (.int .i64))],[],Ia,0,46⟩,[(.ext 0,⟨[MQ],[],[],0,46⟩)],[],[0,1,2,7,8,9],[7]⟩
def K7(s: (List vB×List Int×List Int×Int×Unit×Int×Unit)×Unit×List Int×Unit):M5.R:=
 br (decide (s.1.2.2.2.2.2.1<5)) ((Gd s.1.2.1).bind λy8=>br y8.1 ((Nb s.1.1 s.1.2.2.2.2.2.1).bind λy9=>let j14 (p13:Int):M5.R:=some (.inl ((s.1.1,s.1.2.1,s.1.2.2.1,p13,(),(IntKind.wrap .i64 (s.1.2.2.2.2.2.1+1)),()),(()),s.2.2));br (!y9.1) (j14 s.1.2.2.2.1) ((FK s.1.2.1 s.1.2.2.2.2.2.1).bind λy10=>br y10.1 (j14 s.1.2.2.2.1) ((FK s.1.2.2.1 s.1.2.2.2.2.2.1).bind λy11=>br y11.1 (j14 s.1.2.2.2.1) (br (decide (s.1.2.2.2.1<0)) (j14 s.1.2.2.2.2.2.1) ((Mi s.1.1 s.2.2.1 s.1.2.2.2.2.2.1 s.1.2.2.2.1).bind λy12=>br y12.1 (j14 s.1.2.2.2.2.2.1) (j14 s.1.2.2.2.1)))))) (some (.inr ((s.1.2.2.2.1,()),(()),(()))))) (some (.inr ((s.1.2.2.2.1,()),(()),(()))))
def Ti:=md K7
def TA[dL] :=HP Tryz.f294 [0] M5 K7 [LV,W3,G4,VY] [] (by kernel_rfl) λs=>by simp only[K7,tm];kernel_rfl
def JY(a0:List vB)(a1:List Int)(a2:List Int):Option (Int×Unit):=
 (Nc a0 a1).bind λy1=>(Ti ((a0,a1,a2,(-1),(),0,()),(()),y1.1,())).bind λe15=>some e15.1
def Q4[dL] :=FH 294 Tryz.f294 [.ty (.ls (.st .place)),.ty (.ls (.i .i64)),.ty (.ls (.i .i64))] KB (λx=>JY x.1 x.2.1 x.2.2.1) [W4] [TA] (by kernel_rfl) λx=>by simp only[JY,tm];kernel_rfl
abbrev Oa:LX:=⟨⟨[Q9,NS,X4,(10,.cl (.own 1 (.i .i64)))],[],aac,0,52⟩,[(.ret,⟨[Wy,X4],[],Ia,0,52⟩),(.ext 0,⟨[(8,.cl (.dead)),X4],[],Ia,0,52⟩)],[],[0,3,9,10],[8,9]⟩
def JB(s: (List vB×Int×Unit×Unit×Unit)×Unit×List Int×List Int×Unit):Oa.R:=
 br (decide ((s.2.2.1.length:Int)<s.1.2.1)) ((JY s.1.1 s.2.2.1 s.2.2.2.1).bind λy11=>br (decide (y11.1<0)) (some (.inr (.inl (((),(),()),(()),s.2.2.1,())))) ((HQ s.2.2.1 y11.1).bind λy12=>some (.inl (s.1,(()),y12.1,s.2.2.2)))) (some (.inr (.inr (((),(),()),(()),s.2.2.1,()))))
def Rx:=md JB
def RF[dL] :=HP Tryz.f293 [0] Oa JB [Q4,NQ] [] (by kernel_rfl) λs=>by simp only[JB,tm];kernel_rfl
def Jq(a0:List vB)(a1:List Int)(a2:List Int)(a3:Int):Option ((List Int)×Unit):=
 (GX a1 a2).bind λy1=>(F3 ([0,1,2,3,4]:List Int) a2).bind λy2=>(FQ a0).bind λy3=>br (!y3.1) (some (([]:List Int),())) ((Gd a1).bind λy4=>br (!y4.1) (some (([]:List Int),())) ((Gd a2).bind λy5=>br (!y5.1) (some (([]:List Int),())) ((Fn a3 0 5).bind λy6=>br (!y6.1) (some (([]:List Int),())) ((Rx ((a0,a3,(),(),()),(()),y1.1,y2.1,())).bind λe13=>Sum.elim (λe13_0=>some e13_0.2.2) (λe13_1=>some e13_1.2.2) e13))))
def Tb[dL] :=FH 293 Tryz.f293 [.ty (.ls (.st .place)),.ty (.ls (.i .i64)),.ty (.ls (.i .i64)),.ty (.i .i64)] KG (λx=>Jq x.1 x.2.1 x.2.2.1 x.2.2.2.1) [LB,KS,Lt,LV,FP] [RF] (by kernel_rfl) λx=>by simp only[Jq,tm];kernel_rfl
abbrev Mz:LX:=⟨⟨[KY,Qg,Sw,Nx,Wy,(9,.cl (.ptr 2 0)),Zv,Po],[JP,ZL,ZM],ZR,0,132⟩,[(.ext 0,⟨[KY,Qg,Sw,Nx,Wy,(9,.cl (.ptr 2 0)),Zv],[JP,ZL,ZM],ZR,0,132⟩)],[],[1,2,3,6,8,9,11,12],[1,2,3,6,8,9,11]⟩
def J7(s: (Int×Int×Unit×Unit×Unit×Unit×Unit×Int×Unit)×(M1×UB×UB×Unit)×List Int×List Int×List Int×List Int×Unit):Mz.R:=
 br (decide (s.1.2.2.2.2.2.2.2.1< (s.2.2.2.2.1.length:Int))) (iteP (0<=s.1.2.2.2.2.2.2.2.1/\s.1.2.2.2.2.2.2.2.1< (s.2.2.2.2.1.length:Int)) ((s.2.2.2.2.1[s.1.2.2.2.2.2.2.2.1.toNat]?).bind λx27=>(FK s.2.2.1 x27).bind λy28=>let j33 (p32:List Int):Mz.R:=some (.inl ((s.1.1,s.1.2.1,(),(),(),(),(),(IntKind.wrap .i64 (s.1.2.2.2.2.2.2.2.1+1)),()),s.2.1,s.2.2.1,p32,s.2.2.2.2));br y28.1 (iteP (0<=s.1.2.2.2.2.2.2.2.1/\s.1.2.2.2.2.2.2.2.1< (s.2.2.2.2.1.length:Int)) ((s.2.2.2.2.1[s.1.2.2.2.2.2.2.2.1.toNat]?).bind λx29=>iteP (0<=x29) ((s.2.1.1.2.1[x29.toNat]?).bind λx30=>br (x30.config.epoch==s.2.1.2.2.1.1) (iteP (0<=s.1.2.2.2.2.2.2.2.1/\s.1.2.2.2.2.2.2.2.1< (s.2.2.2.2.1.length:Int)) ((s.2.2.2.2.1[s.1.2.2.2.2.2.2.2.1.toNat]?).bind λx31=>iteP ((s.2.2.2.1++([x31]:List Int)).length*8<=2 ^ 40) (j33 (s.2.2.2.1++([x31]:List Int))) none) none) (j33 s.2.2.2.1)) none) none) (j33 s.2.2.2.1)) none) (some (.inr ((s.1.1,s.1.2.1,(),(),(),(),(),()),s.2)))
def Sq:=md J7
def SO[dL] :=HP Tryz.f272 [0] Mz J7 [G4] [] (by kernel_rfl) λs=>by simp only[J7,tm];kernel_rfl
def Jf(a0:qN)(a1:Int)(a2:Int):Option (om×Bool×Unit):=
 (Fi a0).bind λy1=>br (!y1.1) (some ((⟨0,0,([]:List Int),([]:List Int)⟩:om),false,())) ((Fn a1 1 3).bind λy2=>br (!y2.1) (some ((⟨0,0,([]:List Int),([]:List Int)⟩:om),false,())) ((Fn a2 0 1).bind λy3=>br (!y3.1) (some ((⟨0,0,([]:List Int),([]:List Int)⟩:om),false,())) (br ((a0.master.configs.length:Int)==20) (some ((⟨0,0,([]:List Int),([]:List Int)⟩:om),false,())) ((Mg a0).bind λy4=>(F0 a0.master).bind λy5=>(Sq ((a1,a2,(),(),(),(),(),0,()),((a0.now,a0.servers,a0.sides,a0.master.configs,a0.master.activated,a0.masterUp,a0.lease.epoch,a0.lease.holder,a0.lease.ends,a0.places,()),(0,0,(),(),()),(y5.1.epoch,y5.1.primary,(),(),()),()),y4.1,([]:List Int),y5.1.replicas,y5.1.witnesses,())).bind λe34=>(Jq e34.2.1.1.2.2.2.2.2.2.2.2.2.1 e34.2.2.2.1 e34.2.2.1 e34.1.1).bind λy35=>br ((y35.1.length:Int)==0) (some ((⟨0,0,([]:List Int),([]:List Int)⟩:om),false,())) (iteP (0<=(0:Int)/\(0:Int)< (y35.1.length:Int)) ((y35.1[(0:Int).toNat]?).bind λx36=>(FK y35.1 e34.2.1.2.2.1.2.1).bind λy37=>let j43 (p39:Int):Option (om×Bool×Unit):=br (e34.1.2.1==1) ((F3 ([0,1,2,3,4]:List Int) e34.2.2.1).bind λy40=>(JY e34.2.1.1.2.2.2.2.2.2.2.2.2.1 y35.1 y40.1).bind λy41=>br (decide (y41.1≥0)) (some ((⟨(IntKind.wrap .i64 ((e34.2.1.1.2.2.2.1.length:Int)+1)),p39,y35.1,([y41.1]:List Int)⟩:om),true,())) (some ((⟨(IntKind.wrap .i64 ((e34.2.1.1.2.2.2.1.length:Int)+1)),p39,y35.1,([]:List Int)⟩:om),true,()))) (some ((⟨(IntKind.wrap .i64 ((e34.2.1.1.2.2.2.1.length:Int)+1)),p39,y35.1,([]:List Int)⟩:om),true,()));br y37.1 ((IK (⟨e34.2.1.2.2.1.1,e34.2.1.2.2.1.2.1,e34.2.2.2.2.1,e34.2.2.2.2.2.1⟩:om)).bind λy38=>br (!y38.1) (j43 e34.2.1.2.2.1.2.1) (j43 x36)) (j43 x36)) none)))))
def P7[dL] :=FH 272 Tryz.f272 Rz Ye (λx=>Jf x.1 x.2.1 x.2.2.1) [Fo,FP,VW,GY,G4,Tb,O5,KS,Q4] [SO] (by kernel_rfl) λx=>by simp only[Jf,tm];kernel_rfl
def Hx(a0:kB)(a1:om):Option (kB×Bool×Unit):=
 (KP a0).bind λy1=>(FU a0).bind λy2=>br (!y2.1) (some (y1.1,false,())) ((Fk a1).bind λy3=>br (!y3.1) (some (y1.1,false,())) (br (!(a1.epoch==(IntKind.wrap .i64 ((a0.configs.length:Int)+1)))) (some (y1.1,false,())) ((H6 a1).bind λy4=>iteP ((y1.1.configs++([y4.1]:List om)).length*64<=2 ^ 40) (some ((⟨(y1.1.configs++([y4.1]:List om)),y1.1.activated⟩:kB),true,())) none)))
def NZ[dL] :=FH 69 Tryz.f69 [.ty (.st .masterLog),.ty (.st .config)] [.st .masterLog,.b] (λx=>Hx x.1 x.2.1) [QA,Le,JI,OC] [] (by kernel_rfl) λx=>by simp only[Hx,tm];kernel_rfl
def HL(a0:qN)(a1:om):Option (qN×Int×Unit):=
 (FE a0).bind λy1=>(Fi a0).bind λy2=>br (!y2.1) (some (y1.1,1,())) (br (decide ((IntKind.wrap .i64 (a0.masterUp*2))<=3)) (some (y1.1,8,())) ((Hx a0.master a1).bind λy3=>br (!y3.2.1) (some (y1.1,1,())) (some ((⟨y1.1.now,y1.1.servers,y1.1.sides,y3.1,y1.1.masterUp,y1.1.lease,y1.1.places⟩:qN),0,()))))
def MV[dL] :=FH 273 Tryz.f273 [.ty (.st .cluster),.ty (.st .config)] Oc (λx=>HL x.1 x.2.1) [F4,Fo,NZ] [] (by kernel_rfl) λx=>by simp only[HL,tm];kernel_rfl
def LQ(a0:kB):Option (om×Bool×Unit):=
 (Hi a0 (a0.configs.length:Int)).bind λy1=>some (y1.1,y1.2.1,())
def Uj[dL] :=FH 295 Tryz.f295 Xa Ye (λx=>LQ x.1) [PD] [] (by kernel_rfl) λx=>by simp only[LQ,tm];kernel_rfl
def HE(a0:qQ)(a1:Int):Option (qQ×Bool×Unit):=
 (Hy a0).bind λy1=>(Fn a1 1 20).bind λy2=>br (!y2.1) (some (y1.1,false,())) (br (decide (a1<=a0.epoch)) (some (y1.1,false,())) (br (decide (a0.epoch<0)) (some (y1.1,false,())) (some ((⟨y1.1.up,y1.1.intact,y1.1.version,a1,y1.1.config,y1.1.first,y1.1.log,y1.1.commit,y1.1.learned⟩:qQ),true,()))))
def P9[dL] :=FH 241 Tryz.f241 V7 [.st .server,.b] (λx=>HE x.1 x.2.1) [QB,FP] [] (by kernel_rfl) λx=>by simp only[HE,tm];kernel_rfl
abbrev LG:LX:=⟨⟨[KY,Qg,Sw,Nx,(7,.cl (.ptr 2 0)),Zw,TL],[JP,Lx,To],Vh,0,85⟩,[(.ext 0,⟨[(6,.cl (.ptr 0 0)),(7,.cl (.ptr 1 0))],[Lx,Tp],Vi,0,85⟩)],[],[1,2,3,6,7,10,11],[6,7]⟩
def JC(s: (Int×Int×Unit×Unit×Unit×Unit×Int×Unit)×(M1×LF×LF×Unit)×List Int×List qQ×List Int×List om×List vB×Unit):LG.R:=
 br (decide (s.1.2.2.2.2.2.2.1< (s.2.2.1.length:Int))) (iteP (0<=s.1.2.2.2.2.2.2.1/\s.1.2.2.2.2.2.2.1< (s.2.2.1.length:Int)) ((s.2.2.1[s.1.2.2.2.2.2.2.1.toNat]?).bind λx36=>iteP (0<=x36) ((s.2.1.1.2.1[x36.toNat]?).bind λx37=>let j47 (p46:List qQ):LG.R:=some (.inl ((s.1.1,s.1.2.1,(),(),(),(),(IntKind.wrap .i64 (s.1.2.2.2.2.2.2.1+1)),()),s.2.1,s.2.2.1,p46,s.2.2.2.2));br x37.up (iteP (0<=s.1.2.2.2.2.2.2.1/\s.1.2.2.2.2.2.2.1< (s.2.2.1.length:Int)) ((s.2.2.1[s.1.2.2.2.2.2.2.1.toNat]?).bind λx38=>(Gw s.2.1.1.2.2.1 s.1.1 x38).bind λy39=>br y39.1 (iteP (0<=s.1.2.2.2.2.2.2.1/\s.1.2.2.2.2.2.2.1< (s.2.2.1.length:Int)) ((s.2.2.1[s.1.2.2.2.2.2.2.1.toNat]?).bind λx40=>iteP (0<=s.1.2.2.2.2.2.2.1/\s.1.2.2.2.2.2.2.1< (s.2.2.1.length:Int)) ((s.2.2.1[s.1.2.2.2.2.2.2.1.toNat]?).bind λx41=>iteP (0<=x41) ((s.2.1.1.2.1[x41.toNat]?).bind λx42=>(HE x42 s.1.2.1).bind λy43=>iteP (0<=x40/\x40< (s.2.2.2.1.length:Int)) ((s.2.2.2.1[x40.toNat]?).bind λ_=>j47 (s.2.2.2.1.set x40.toNat y43.1)) none) none) none) none) (j47 s.2.2.2.1)) none) (j47 s.2.2.2.1)) none) none) (some (.inr (((),(),()),s.2.1.2,s.2.2.2)))
def Ry:=md JC
def RG[dL] :=HP Tryz.f296 [0] LG JC [KR,P9] [] (by kernel_rfl) λs=>by simp only[JC,tm];kernel_rfl
def Js(a0:qN)(a1:Int)(a2:Int):Option (qN×Unit):=
 (FE a0).bind λy1=>(F0 a0.master).bind λy2=>(Fi a0).bind λy3=>br (!y3.1) (some (y1.1,())) (br (!y2.2.1) (some (y1.1,())) ((Fn a2 1 (a0.master.configs.length:Int)).bind λy4=>br (!y4.1) (some (y1.1,())) ((FX y2.1).bind λy5=>(Ry ((a1,a2,(),(),(),(),0,()),((a0.now,a0.servers,a0.sides,a0.master.configs,a0.master.activated,a0.masterUp,a0.lease.epoch,a0.lease.holder,a0.lease.ends,a0.places,()),(0,(),(),(),0,0,0,0,0,(),()),(y1.1.now,(),(),(),y1.1.master.activated,y1.1.masterUp,y1.1.lease.epoch,y1.1.lease.holder,y1.1.lease.ends,(),()),()),y5.1,y1.1.servers,y1.1.sides,y1.1.master.configs,y1.1.places,())).bind λe48=>some ((⟨e48.2.1.2.1.1,e48.2.2.1,e48.2.2.2.1,(⟨e48.2.2.2.2.1,e48.2.1.2.1.2.2.2.2.1⟩:kB),e48.2.1.2.1.2.2.2.2.2.1,(⟨e48.2.1.2.1.2.2.2.2.2.2.1,e48.2.1.2.1.2.2.2.2.2.2.2.1,e48.2.1.2.1.2.2.2.2.2.2.2.2.1⟩:vz),e48.2.2.2.2.2.1⟩:qN),()))))
def Td[dL] :=FH 296 Tryz.f296 Rz Xb (λx=>Js x.1 x.2.1 x.2.2.1) [F4,GY,Fo,FP,I3] [RG] (by kernel_rfl) λx=>by simp only[Js,tm];kernel_rfl
abbrev MB:LX:=⟨⟨[KY,MZ,Nw,Nx,Vg,Rc],[JP,Yg],ZS,0,74⟩,[(.ext 0,⟨[Nw],[],Ia,0,74⟩)],[],[1,2,5,6,7,8],[5]⟩
def J8(s:X9×(M1×UB×Unit)×List Int×List Int×List Int×Unit):MB.R:=
 br (decide (s.1.2.2.2.2.2.1< (s.2.2.2.1.length:Int))) (br s.1.2.2.2.2.1 ((Fi (⟨s.2.1.1.1,s.2.1.1.2.1,s.2.1.1.2.2.1,(⟨s.2.1.1.2.2.2.1,s.2.1.1.2.2.2.2.1⟩:kB),s.2.1.1.2.2.2.2.2.1,(⟨s.2.1.1.2.2.2.2.2.2.1,s.2.1.1.2.2.2.2.2.2.2.1,s.2.1.1.2.2.2.2.2.2.2.2.1⟩:vz),s.2.1.1.2.2.2.2.2.2.2.2.2.1⟩:qN)).bind λy20=>br y20.1 ((Fn s.1.1 0 4).bind λy21=>br y21.1 (iteP (0<=s.1.2.2.2.2.2.1/\s.1.2.2.2.2.2.1< (s.2.2.2.1.length:Int)) ((s.2.2.2.1[s.1.2.2.2.2.2.1.toNat]?).bind λx22=>iteP (0<=x22) ((s.2.1.1.2.1[x22.toNat]?).bind λx23=>let j28 (p27:List Int):MB.R:=some (.inl ((s.1.1,(),(),(),s.1.2.2.2.2.1,(IntKind.wrap .i64 (s.1.2.2.2.2.2.1+1)),()),s.2.1,p27,s.2.2.2));br x23.up (br (x23.config.epoch==s.2.1.2.1.1) (iteP (0<=s.1.2.2.2.2.2.1/\s.1.2.2.2.2.2.1< (s.2.2.2.1.length:Int)) ((s.2.2.2.1[s.1.2.2.2.2.2.1.toNat]?).bind λx24=>(Gw s.2.1.1.2.2.1 s.1.1 x24).bind λy25=>br y25.1 (iteP (0<=s.1.2.2.2.2.2.1/\s.1.2.2.2.2.2.1< (s.2.2.2.1.length:Int)) ((s.2.2.2.1[s.1.2.2.2.2.2.1.toNat]?).bind λx26=>iteP ((s.2.2.1++([x26]:List Int)).length*8<=2 ^ 40) (j28 (s.2.2.1++([x26]:List Int))) none) none) (j28 s.2.2.1)) none) (j28 s.2.2.1)) (j28 s.2.2.1)) none) none) (some (.inr (((),()),(()),s.2.2.1,())))) (some (.inr (((),()),(()),s.2.2.1,())))) (some (.inr (((),()),(()),s.2.2.1,())))) (some (.inr (((),()),(()),s.2.2.1,())))
def Sr:=md J8
def SP[dL] :=HP Tryz.f26 [0] MB J8 [Fo,FP,KR] [] (by kernel_rfl) λs=>by simp only[J8,tm];kernel_rfl
def Kq(a0:qN)(a1:Int):Option ((List Int)×Unit):=
 (F0 a0.master).bind λy1=>(Sr ((a1,(),(),(),y1.2.1,0,()),((a0.now,a0.servers,a0.sides,a0.master.configs,a0.master.activated,a0.masterUp,a0.lease.epoch,a0.lease.holder,a0.lease.ends,a0.places,()),(y1.1.epoch,y1.1.primary,(),(),()),()),([]:List Int),y1.1.replicas,y1.1.witnesses,())).bind λe29=>some e29.2.2
def Uq[dL] :=FH 26 Tryz.f26 LD KG (λx=>Kq x.1 x.2.1) [GY] [SP] (by kernel_rfl) λx=>by simp only[Kq,tm];kernel_rfl
abbrev OO:LX:=⟨⟨[MZ,Ms,Wx,MQ],[JP],Ia,0,44⟩,[(.ext 0,⟨[Ms],[],[],0,44⟩)],[],[2,5,6,7],[5]⟩
def J4(s:ZD×(M1×Unit)×List Int×Unit):OO.R:=
 br (decide (s.1.2.2.2.1< (s.2.2.1.length:Int))) (br (decide (s.1.2.1<0)) (iteP (0<=s.1.2.2.2.1/\s.1.2.2.2.1< (s.2.2.1.length:Int)) ((s.2.2.1[s.1.2.2.2.1.toNat]?).bind λx15=>some (.inl (((),x15,(),(IntKind.wrap .i64 (s.1.2.2.2.1+1)),()),s.2))) none) (iteP (0<=s.1.2.2.2.1/\s.1.2.2.2.1< (s.2.2.1.length:Int)) ((s.2.2.1[s.1.2.2.2.1.toNat]?).bind λx16=>iteP (0<=x16) ((s.2.1.1.2.1[x16.toNat]?).bind λx17=>iteP (0<=s.1.2.1) ((s.2.1.1.2.1[s.1.2.1.toNat]?).bind λx18=>br (decide ((x17.log.length:Int)>(x18.log.length:Int))) (iteP (0<=s.1.2.2.2.1/\s.1.2.2.2.1< (s.2.2.1.length:Int)) ((s.2.2.1[s.1.2.2.2.1.toNat]?).bind λx19=>some (.inl (((),x19,(),(IntKind.wrap .i64 (s.1.2.2.2.1+1)),()),s.2))) none) (some (.inl (((),s.1.2.1,(),(IntKind.wrap .i64 (s.1.2.2.2.1+1)),()),s.2)))) none) none) none)) (some (.inr ((s.1.2.1,()),(()),(()))))
def Sk:=md J4
def SJ[dL] :=HP Tryz.f28 [0] OO J4 [] [] (by kernel_rfl) λs=>by simp only[J4,tm];kernel_rfl
def Kf(a0:qN)(a1:Int):Option (Int×Unit):=
 (Kq a0 a1).bind λy1=>(Sk (((),(-1),(),0,()),((a0.now,a0.servers,a0.sides,a0.master.configs,a0.master.activated,a0.masterUp,a0.lease.epoch,a0.lease.holder,a0.lease.ends,a0.places,()),()),y1.1,())).bind λe21=>some e21.1
def Uf[dL] :=FH 28 Tryz.f28 LD KB (λx=>Kf x.1 x.2.1) [Uq] [SJ] (by kernel_rfl) λx=>by simp only[Kf,tm];kernel_rfl
def Ng(a0:qQ)(a1:Int):Option ((List sf)×Unit):=
 (GO a0.config a1).bind λy1=>(GP a0.learned).bind λy2=>br (y1.1==1) ((FZ a0).bind λy3=>br (decide ((y3.1.length:Int)>(y2.1.length:Int))) (some (y3.1,())) (some (y2.1,()))) (br (y1.1==2) ((FZ a0).bind λy4=>br (decide ((y4.1.length:Int)>(y2.1.length:Int))) (some (y4.1,())) (some (y2.1,()))) (some (y2.1,())))
def W6[dL] :=FH 103 Tryz.f103 V7 Xc (λx=>Ng x.1 x.2.1) [Nm,Ju,JH] [] (by kernel_rfl) λx=>by simp only[Ng,tm];kernel_rfl
def Nd(a0:Int)(a1:List sf):Option (Bool×Unit):=
 (Gp a1).bind λy1=>br y1.1 (br (decide ((a1.length:Int)<=3)) ((Fn a0 0 (IntKind.wrap .i64 (16-(a1.length:Int)))).bind λy2=>br y2.1 (br (a0==0) (some (true,())) (some (((a1.length:Int)==3),()))) (some (false,()))) (some (false,()))) (some (false,()))
def W5[dL] :=FH 174 Tryz.f174 Zo [.b] (λx=>Nd x.1 x.2.1) [LW,FP] [] (by kernel_rfl) λx=>by simp only[Nd,tm];kernel_rfl
abbrev Nz:LX:=⟨⟨[Pb,X5,Ms],[],[],0,30⟩,[(.ext 0,⟨[Ms],[],[],0,30⟩)],[],[0,1,5],[5]⟩
def GK(s:ZE×Unit×Unit):Nz.R:=
 br (decide (s.1.2.2.1< (s.1.1.length:Int))) (br (decide (s.1.2.2.1< (s.1.2.1.length:Int))) (iteP (0<=s.1.2.2.1) ((s.1.1[s.1.2.2.1.toNat]?).bind λx4=>iteP (0<=s.1.2.2.1) ((s.1.2.1[s.1.2.2.1.toNat]?).bind λx5=>br ((x4.epoch==x5.epoch)&&((x4.op.client==x5.op.client)&&((x4.op.seq==x5.op.seq)&&((x4.op.kind==x5.op.kind)&&((x4.op.object==x5.op.object)&&((x4.op.old==x5.op.old)&&((x4.op.value==x5.op.value)&&true))))))) (some (.inl ((s.1.1,s.1.2.1,(IntKind.wrap .i64 (s.1.2.2.1+1)),()),(()),(())))) (some (.inr (s.1.2.2,(()),(()))))) none) none) (some (.inr (s.1.2.2,(()),(()))))) (some (.inr (s.1.2.2,(()),(()))))
def KV:=md GK
def QO[dL] :=HP Tryz.f175 [0] Nz GK [] [] (by kernel_rfl) λs=>by simp only[GK,tm];kernel_rfl
def H0(a0:List sf)(a1:List sf):Option (Int×Unit):=
 (KV ((a0,a1,0,()),(()),(()))).bind λe6=>some e6.1
def R2[dL] :=FH 175 Tryz.f175 Ww KB (λx=>H0 x.1 x.2.1) [] [QO] (by kernel_rfl) λx=>by simp only[H0,tm];kernel_rfl
def Ma(a0:List sf)(a1:Int)(a2:List sf):Option ((List sf)×Bool×Unit):=
 (Gp a0).bind λy1=>br (!y1.1) (some (([]:List sf),false,())) ((Nd a1 a2).bind λy2=>br (!y2.1) (some (([]:List sf),false,())) (br (decide (a1>(a0.length:Int))) (some (([]:List sf),false,())) (iteP (0<=a1/\a1<=(a0.length:Int)/\(a0.length:Int)<=(a0.length:Int)) ((H0 ((a0.drop a1.toNat).take ((a0.length:Int).toNat-a1.toNat)) a2).bind λy3=>br (decide (y3.1< (if (a2.length:Int)< (IntKind.wrap .i64 ((a0.length:Int)-a1)) then (a2.length:Int) else (IntKind.wrap .i64 ((a0.length:Int)-a1))))) (some (([]:List sf),false,())) ((GP a0).bind λy4=>iteP (0<=y3.1/\y3.1<=(a2.length:Int)/\(a2.length:Int)<=(a2.length:Int)) (iteP ((y4.1++((a2.drop y3.1.toNat).take ((a2.length:Int).toNat-y3.1.toNat))).length*56<=2 ^ 40) ((Gp (y4.1++((a2.drop y3.1.toNat).take ((a2.length:Int).toNat-y3.1.toNat)))).bind λy5=>br (!y5.1) (some (([]:List sf),false,())) (some ((y4.1++((a2.drop y3.1.toNat).take ((a2.length:Int).toNat-y3.1.toNat))),true,()))) none) none)) none)))
def VO[dL] :=FH 102 Tryz.f102 [.ty (.ls (.st .entry)),.ty (.i .i64),.ty (.ls (.st .entry))] Yd (λx=>Ma x.1 x.2.1 x.2.2.1) [LW,W5,R2,Ju] [] (by kernel_rfl) λx=>by simp only[Ma,tm];kernel_rfl
abbrev LH:LX:=⟨⟨[KY,MZ,Wz,Vg,X6,TK,TM,(11,.cl (.ptr 2 0)),Po],[JP,Yg,ZN],Yh,0,121⟩,[(.ext 2,⟨[KY,MZ,Wz,Vg,X6,TK,TM],[JP,Yg],Yh,0,121⟩)],[],[1,2,6,7,8,9,10,11,12],[1,2,6,7,8,9,10]⟩
def JD(s: (Int×Unit×Unit×Bool×Unit×Bool×Int×Unit×Int×Unit)×(M1×UB×ZF×Unit)×List sf×List Int×List Int×Unit):LH.R:=
 br (decide (s.1.2.2.2.2.2.2.2.2.1<5)) (iteP (0<=s.1.2.2.2.2.2.2.2.2.1) ((s.2.1.1.2.1[s.1.2.2.2.2.2.2.2.2.1.toNat]?).bind λx59=>let j66 (p64:List sf) (p65:Bool):LH.R:=some (.inl ((s.1.1,(),(),p65,(),s.1.2.2.2.2.2.1,s.1.2.2.2.2.2.2.1,(),(IntKind.wrap .i64 (s.1.2.2.2.2.2.2.2.2.1+1)),()),s.2.1,p64,s.2.2.2));br (!x59.up) (j66 s.2.2.1 s.1.2.2.2.1) ((Gw s.2.1.1.2.2.1 s.1.1 s.1.2.2.2.2.2.2.2.2.1).bind λy60=>br (!y60.1) (j66 s.2.2.1 s.1.2.2.2.1) (iteP (0<=s.1.2.2.2.2.2.2.2.2.1) ((s.2.1.1.2.1[s.1.2.2.2.2.2.2.2.2.1.toNat]?).bind λx61=>(Ng x61 s.1.2.2.2.2.2.2.2.2.1).bind λy62=>(Ma y62.1 s.2.1.2.2.1.2.2.2.2.2.2.2.2.1 s.2.1.2.2.1.2.2.2.2.2.2.2.2.2.1).bind λy63=>br y63.2.1 (br (!s.1.2.2.2.1) (j66 y63.1 true) (br (decide ((y63.1.length:Int)>(s.2.2.1.length:Int))) (j66 y63.1 true) (j66 s.2.2.1 s.1.2.2.2.1))) (j66 s.2.2.1 s.1.2.2.2.1)) none))) none) (some (.inr ((s.1.1,(),(),s.1.2.2.2.1,(),s.1.2.2.2.2.2.1,s.1.2.2.2.2.2.2.1,()),(s.2.1.1,s.2.1.2.1,()),s.2.2)))
def N3:=md JD
def RH[dL] :=HP Tryz.f32 [0,0] LH JD [KR,W6,VO] [] (by kernel_rfl) λs=>by simp only[JD,tm];kernel_rfl
abbrev OT:LX:=⟨⟨[KY,MZ,Wz,Vg,X6,TK,TM],[JP,Yg],Yh,0,121⟩,[(.ext 0,⟨[Wz,Vg],[],[.st .entry],0,121⟩)],[],[1,2,6,7,8,9,10],[6,7]⟩
def J9(s: (Int×Unit×Unit×Bool×Unit×Bool×Int×Unit)×(M1×UB×Unit)×List sf×List Int×List Int×Unit):OT.R:=
 br (decide (s.1.2.2.2.2.2.2.1< (s.2.2.2.2.1.length:Int))) (br s.1.2.2.2.2.2.1 ((Fi (⟨s.2.1.1.1,s.2.1.1.2.1,s.2.1.1.2.2.1,(⟨s.2.1.1.2.2.2.1,s.2.1.1.2.2.2.2.1⟩:kB),s.2.1.1.2.2.2.2.2.1,(⟨s.2.1.1.2.2.2.2.2.2.1,s.2.1.1.2.2.2.2.2.2.2.1,s.2.1.1.2.2.2.2.2.2.2.2.1⟩:vz),s.2.1.1.2.2.2.2.2.2.2.2.2.1⟩:qN)).bind λy21=>br y21.1 ((Fn s.1.1 0 4).bind λy22=>br y22.1 (iteP (0<=s.1.2.2.2.2.2.2.1/\s.1.2.2.2.2.2.2.1< (s.2.2.2.2.1.length:Int)) ((s.2.2.2.2.1[s.1.2.2.2.2.2.2.1.toNat]?).bind λx23=>iteP (0<=x23) ((s.2.1.1.2.1[x23.toNat]?).bind λx24=>br (!x24.up) (some (.inl ((s.1.1,(),(),s.1.2.2.2.1,(),s.1.2.2.2.2.2.1,(IntKind.wrap .i64 (s.1.2.2.2.2.2.2.1+1)),()),s.2))) (br (!(x24.config.epoch==s.2.1.2.1.1)) (some (.inl ((s.1.1,(),(),s.1.2.2.2.1,(),s.1.2.2.2.2.2.1,(IntKind.wrap .i64 (s.1.2.2.2.2.2.2.1+1)),()),s.2))) (iteP (0<=s.1.2.2.2.2.2.2.1/\s.1.2.2.2.2.2.2.1< (s.2.2.2.2.1.length:Int)) ((s.2.2.2.2.1[s.1.2.2.2.2.2.2.1.toNat]?).bind λx25=>(Gw s.2.1.1.2.2.1 s.1.1 x25).bind λy26=>br (!y26.1) (some (.inl ((s.1.1,(),(),s.1.2.2.2.1,(),s.1.2.2.2.2.2.1,(IntKind.wrap .i64 (s.1.2.2.2.2.2.2.1+1)),()),s.2))) ((N3 ((s.1.1,(),(),s.1.2.2.2.1,(),s.1.2.2.2.2.2.1,s.1.2.2.2.2.2.2.1,(),0,()),(s.2.1.1,s.2.1.2.1,(x24.up,x24.intact,x24.version,x24.epoch,x24.config.epoch,x24.config.primary,x24.config.replicas,x24.config.witnesses,x24.first,x24.log,x24.commit,x24.learned,()),()),s.2.2)).bind λe67=>some (.inl ((e67.1.1,(),(),e67.1.2.2.2.1,(),e67.1.2.2.2.2.2.1,(IntKind.wrap .i64 (e67.1.2.2.2.2.2.2.1+1)),()),e67.2)))) none))) none) none) (some (.inr (((),s.1.2.2.2.1,()),(()),s.2.2.1,())))) (some (.inr (((),s.1.2.2.2.1,()),(()),s.2.2.1,())))) (some (.inr (((),s.1.2.2.2.1,()),(()),s.2.2.1,())))) (some (.inr (((),s.1.2.2.2.1,()),(()),s.2.2.1,())))
def Ss:=md J9
def SQ[dL] :=HP Tryz.f32 [0] OT J9 [Fo,FP,KR] [RH] (by kernel_rfl) λs=>by simp only[J9,tm];kernel_rfl
def Kr(a0:qN)(a1:Int):Option ((List sf)×Bool×Unit):=
 (F0 a0.master).bind λy1=>(Ss ((a1,(),(),false,(),y1.2.1,0,()),((a0.now,a0.servers,a0.sides,a0.master.configs,a0.master.activated,a0.masterUp,a0.lease.epoch,a0.lease.holder,a0.lease.ends,a0.places,()),(y1.1.epoch,y1.1.primary,(),(),()),()),([]:List sf),y1.1.replicas,y1.1.witnesses,())).bind λe87=>some (e87.2.2.1,e87.1.2)
def Us[dL] :=FH 32 Tryz.f32 LD Yd (λx=>Kr x.1 x.2.1) [GY] [SQ] (by kernel_rfl) λx=>by simp only[Kr,tm];kernel_rfl
def Ln(a0:qN)(a1:Int):Option ((List sf)×Bool×Unit):=
 (Fi a0).bind λy1=>br (!y1.1) (some (([]:List sf),false,())) ((Fn a1 0 4).bind λy2=>br (!y2.1) (some (([]:List sf),false,())) (br (a0.master.activated==0) (some (([]:List sf),true,())) ((Kf a0 a1).bind λy3=>br (decide (y3.1≥0)) (iteP (0<=y3.1) ((a0.servers[y3.1.toNat]?).bind λx4=>(GP x4.log).bind λy5=>some (y5.1,true,())) none) ((Kr a0 a1).bind λy6=>some (y6.1,y6.2.1,())))))
def U5[dL] :=FH 22 Tryz.f22 LD Yd (λx=>Ln x.1 x.2.1) [Fo,FP,Uf,Ju,Us] [] (by kernel_rfl) λx=>by simp only[Ln,tm];kernel_rfl
abbrev NE:LX:=⟨⟨[Pb,NS],[],[],0,16⟩,[(.ret,⟨[Qj],[],[],0,16⟩),(.ext 0,⟨[Pa],[],[],0,16⟩)],[],[0,3],[2]⟩
def Jb(s:ZB×Unit×Unit):NE.R:=
 br (decide (s.1.2.1< (s.1.1.length:Int))) (iteP (0<=s.1.2.1) ((s.1.1[s.1.2.1.toNat]?).bind λx3=>(IJ x3.op).bind λy4=>br y4.1 (some (.inr (.inl ((true,()),(()),(()))))) (some (.inl ((s.1.1,(IntKind.wrap .i64 (s.1.2.1+1)),()),(()),(()))))) none) (some (.inr (.inr (((),()),(()),(())))))
def QF:=md Jb
def QT[dL] :=HP Tryz.f146 [0] NE Jb [Pi] [] (by kernel_rfl) λs=>by simp only[Jb,tm];kernel_rfl
def Hk(a0:List sf):Option (Bool×Unit):=
 (QF ((a0,0,()),(()),(()))).bind λe5=>Sum.elim (λe5_0=>some e5_0.1) (λ_=>some (false,())) e5
def Mj[dL] :=FH 146 Tryz.f146 QI [.b] (λx=>Hk x.1) [] [QT] (by kernel_rfl) λx=>by simp only[Hk,tm];kernel_rfl
def Hw(a0:qQ)(a1:om)(a2:Int)(a3:List sf):Option (qQ×Bool×Unit):=
 (GO a1 a2).bind λy1=>br (y1.1==0) ((Hy a0).bind λy2=>some (y2.1,false,())) ((Gp a3).bind λy3=>br (!y3.1) ((Hy a0).bind λy4=>some (y4.1,false,())) ((Fn a0.version 1 2).bind λy5=>br (!y5.1) ((Hy a0).bind λy6=>some (y6.1,false,())) ((Fn a0.epoch 0 a1.epoch).bind λy7=>br (!y7.1) ((Hy a0).bind λy8=>some (y8.1,false,())) ((JZ a3).bind λy9=>br (decide (y9.1>a1.epoch)) ((Hy a0).bind λy10=>some (y10.1,false,())) (let j18:Option (qQ×Bool×Unit):=(H6 a1).bind λy13=>(GP a3).bind λy14=>br (y1.1==3) (iteP (0<=(if (IntKind.wrap .i64 ((a3.length:Int)-3))>0 then (IntKind.wrap .i64 ((a3.length:Int)-3)) else 0)/\(if (IntKind.wrap .i64 ((a3.length:Int)-3))>0 then (IntKind.wrap .i64 ((a3.length:Int)-3)) else 0)<=(a3.length:Int)/\(a3.length:Int)<=(a3.length:Int)) ((GP ((a3.drop (if (IntKind.wrap .i64 ((a3.length:Int)-3))>0 then (IntKind.wrap .i64 ((a3.length:Int)-3)) else 0).toNat).take ((a3.length:Int).toNat-(if (IntKind.wrap .i64 ((a3.length:Int)-3))>0 then (IntKind.wrap .i64 ((a3.length:Int)-3)) else 0).toNat))).bind λy15=>some ((⟨a0.up,true,a0.version,a1.epoch,y13.1,(if (IntKind.wrap .i64 ((a3.length:Int)-3))>0 then (IntKind.wrap .i64 ((a3.length:Int)-3)) else 0),y15.1,(a3.length:Int),([]:List sf)⟩:qQ),true,())) none) (some ((⟨a0.up,true,a0.version,a1.epoch,y13.1,0,y14.1,(a3.length:Int),([]:List sf)⟩:qQ),true,()));br (a0.version==1) ((Hk a3).bind λy11=>br y11.1 ((Hy a0).bind λy12=>some (y12.1,false,())) (j18)) (j18))))))
def NX[dL] :=FH 71 Tryz.f71 [.ty (.st .server),.ty (.st .config),.ty (.i .i64),.ty (.ls (.st .entry))] [.st .server,.b] (λx=>Hw x.1 x.2.1 x.2.2.1 x.2.2.2.1) [Nm,QB,LW,FP,QC,Mj,OC,Ju] [] (by kernel_rfl) λx=>by simp only[Hw,tm];kernel_rfl
def Hc(a0:kB)(a1:Int):Option (kB×Bool×Unit):=
 (KP a0).bind λy1=>(FU a0).bind λy2=>br (!y2.1) (some (y1.1,false,())) (br (!(a1==(a0.configs.length:Int))) (some (y1.1,false,())) (br (decide (a1<=a0.activated)) (some (y1.1,false,())) (some ((⟨y1.1.configs,a1⟩:kB),true,()))))
def Nj[dL] :=FH 70 Tryz.f70 XZ [.st .masterLog,.b] (λx=>Hc x.1 x.2.1) [QA,Le] [] (by kernel_rfl) λx=>by simp only[Hc,tm];kernel_rfl
abbrev Pp:LX:=⟨⟨[J3,Nv,Rd,Re,Sx,Sy,TM],[JP,Lx,UC,Wb],Wc,0,180⟩,[(.ret,⟨[J3,Nv,NS,Rd,Re,Sx,Sy],[JP,UC,UC,Wb],Wc,0,180⟩),(.ext 1,⟨[J3,Nv,(3,.cl (.dead)),Rd,Re,Sx,Sy],[JP,Lx,UC,Wb],Wc,0,180⟩)],[],[1,2,4,5,7,9,10],[1,2,3,4,5,7,9]⟩
def K2(s:Ya×(M1×LF×LF×UB×Unit)×List sf×List Int×List qQ×List Int×List om×List vB×List Int×List Int×Unit):Pp.R:=
 br (decide (s.1.2.2.2.2.2.2.1< (s.2.2.2.1.length:Int))) (iteP (0<=s.1.2.2.2.2.2.2.1/\s.1.2.2.2.2.2.2.1< (s.2.2.2.1.length:Int)) ((s.2.2.2.1[s.1.2.2.2.2.2.2.1.toNat]?).bind λx43=>iteP (0<=x43) ((s.2.1.1.2.1[x43.toNat]?).bind λx44=>br (!x44.up) (some (.inr (.inl (((),(),10,(),(),(),(),()),(s.2.1.1,s.2.1.2.2.1,s.2.1.2.2),s.2.2)))) (iteP (0<=s.1.2.2.2.2.2.2.1/\s.1.2.2.2.2.2.2.1< (s.2.2.2.1.length:Int)) ((s.2.2.2.1[s.1.2.2.2.2.2.2.1.toNat]?).bind λx45=>iteP (0<=x45) ((s.2.1.1.2.2.1[x45.toNat]?).bind λx46=>br (!(x46==0)) (some (.inr (.inl (((),(),10,(),(),(),(),()),(s.2.1.1,s.2.1.2.2.1,s.2.1.2.2),s.2.2)))) (some (.inl (((),(),(),(),(),(),(IntKind.wrap .i64 (s.1.2.2.2.2.2.2.1+1)),()),s.2)))) none) none)) none) none) (some (.inr (.inr (((),(),(),(),(),(),(),()),s.2))))
def Tf:=md K2
def Tq[dL] :=HP Tryz.f274 [0] Pp K2 [] [] (by kernel_rfl) λs=>by simp only[K2,tm];kernel_rfl
abbrev M2:LX:=⟨⟨[J3,Nv,Rd,Re,Sx,Sy,TL],[JP,Lx,UC,Wb],Wc,0,180⟩,[(.ret,⟨[J3,Nv,NS,Rd,Re,Sx,Sy],[JP,UC,UC,Wb],Wc,0,180⟩),(.ext 3,⟨[J3,Nv,(3,.cl (.dead)),Rd,Re,Sx,Sy],[JP,Lx,UC,Wb],Wc,0,180⟩)],[],[1,2,4,5,7,9,11],[1,2,3,4,5,7,9]⟩
def K3(s:Ya×(M1×LF×LF×UB×Unit)×List sf×List Int×List qQ×List Int×List om×List vB×List Int×List Int×Unit):M2.R:=
 br (decide (s.1.2.2.2.2.2.2.1< (s.2.2.2.1.length:Int))) (iteP (0<=s.1.2.2.2.2.2.2.1/\s.1.2.2.2.2.2.2.1< (s.2.2.2.1.length:Int)) ((s.2.2.2.1[s.1.2.2.2.2.2.2.1.toNat]?).bind λx81=>iteP (0<=x81) ((s.2.1.1.2.1[x81.toNat]?).bind λx82=>let j84:M2.R:=some (.inl (((),(),(),(),(),(),(IntKind.wrap .i64 (s.1.2.2.2.2.2.2.1+1)),()),s.2));br (x82.version==1) ((Hk s.2.2.1).bind λy83=>br y83.1 (some (.inr (.inl (((),(),6,(),(),(),(),()),(s.2.1.1,s.2.1.2.2.1,s.2.1.2.2),s.2.2)))) (j84)) (j84)) none) none) (some (.inr (.inr (((),(),(),(),(),(),(),()),s.2))))
def Pk:=md K3
def Ts[dL] :=HP Tryz.f274 [1] M2 K3 [Mj] [] (by kernel_rfl) λs=>by simp only[K3,tm];kernel_rfl
abbrev Pq:LX:=⟨⟨[J3,Nv,Rd,Re,Sx,Sy,Po],[JP,Lx,UC,Wb],Wc,0,180⟩,[(.ext 5,⟨[J3,Nv,Rd,Re],[JP,Lx,Tp,[.int .i64,.int .i64,.own 4 (.i .i64),.own 5 (.i .i64)]],[.st .server,.i .i64,.st .config,.st .place,.i .i64,.i .i64],0,180⟩)],[],[1,2,4,5,7,9,12],[1,2,4,5]⟩
def K4(s:Ya×(M1×LF×LF×UB×Unit)×List sf×List Int×List qQ×List Int×List om×List vB×List Int×List Int×Unit):Pq.R:=
 br (decide (s.1.2.2.2.2.2.2.1< (s.2.2.2.1.length:Int))) (iteP (0<=s.1.2.2.2.2.2.2.1/\s.1.2.2.2.2.2.2.1< (s.2.2.2.1.length:Int)) ((s.2.2.2.1[s.1.2.2.2.2.2.2.1.toNat]?).bind λx119=>iteP (0<=s.1.2.2.2.2.2.2.1/\s.1.2.2.2.2.2.2.1< (s.2.2.2.1.length:Int)) ((s.2.2.2.1[s.1.2.2.2.2.2.2.1.toNat]?).bind λx120=>iteP (0<=x120/\x120< (s.2.2.2.2.1.length:Int)) ((s.2.2.2.2.1[x120.toNat]?).bind λx121=>iteP (0<=s.1.2.2.2.2.2.2.1/\s.1.2.2.2.2.2.2.1< (s.2.2.2.1.length:Int)) ((s.2.2.2.1[s.1.2.2.2.2.2.2.1.toNat]?).bind λx122=>(s.2.2.2.2.1[x120.toNat]?).bind λx123=>iteP (0+x121.config.replicas.length<=x123.config.replicas.length) ((s.2.2.2.2.1[x120.toNat]?).bind λx124=>iteP (0+x121.config.witnesses.length<=x124.config.witnesses.length) ((s.2.2.2.2.1[x120.toNat]?).bind λx125=>iteP (0+x121.log.length<=x125.log.length) ((s.2.2.2.2.1[x120.toNat]?).bind λx126=>iteP (0+x121.learned.length<=x126.learned.length) ((Hw (⟨x121.up,x121.intact,x121.version,x121.epoch,(⟨x121.config.epoch,x121.config.primary,((x123.config.replicas.drop 0).take x121.config.replicas.length),((x124.config.witnesses.drop 0).take x121.config.witnesses.length)⟩:om),x121.first,((x125.log.drop 0).take x121.log.length),x121.commit,((x126.learned.drop 0).take x121.learned.length)⟩:qQ) (⟨s.2.1.2.2.2.1.1,s.2.1.2.2.2.1.2.1,s.2.2.2.2.2.2.2.2.1,s.2.2.2.2.2.2.2.2.2.1⟩:om) x122 s.2.2.1).bind λy127=>iteP (0<=x119/\x119< (s.2.2.2.2.1.length:Int)) ((s.2.2.2.2.1[x119.toNat]?).bind λ_=>some (.inl (((),(),(),(),(),(),(IntKind.wrap .i64 (s.1.2.2.2.2.2.2.1+1)),()),s.2.1,s.2.2.1,s.2.2.2.1,(s.2.2.2.2.1.set x119.toNat y127.1),s.2.2.2.2.2))) none) none) none) none) none) none) none) none) none) (some (.inr (((),(),(),(),()),s.2.1,s.2.2.2.2)))
def Pm:=md K4
def Tu[dL] :=HP Tryz.f274 [2] Pq K4 [NX] [] (by kernel_rfl) λs=>by simp only[K4,tm];kernel_rfl
def JL(a0:qN):Option (qN×Int×Unit):=
 (FE a0).bind λy1=>(LQ a0.master).bind λy2=>(Fi a0).bind λy3=>br (!y3.1) (some (y1.1,1,())) (br (!y2.2.1) (some (y1.1,1,())) (br (y2.1.epoch==a0.master.activated) (some (y1.1,1,())) (br (decide ((IntKind.wrap .i64 (a0.masterUp*2))<=3)) (some (y1.1,8,())) (iteP (0<=y2.1.primary) ((a0.servers[y2.1.primary.toNat]?).bind λx4=>br (!x4.up) (some (y1.1,2,())) (iteP (0<=y2.1.primary) ((a0.sides[y2.1.primary.toNat]?).bind λx5=>br (!(x5==0)) (some (y1.1,10,())) ((HK a0.lease a0.now).bind λy6=>br (!y6.1) (some (y1.1,7,())) ((Js a0 y2.1.primary y2.1.epoch).bind λy7=>(Ln a0 y2.1.primary).bind λy8=>br (!y8.2.1) (some (y7.1,9,())) ((FX y2.1).bind λy9=>(Tf (((),(),(),(),(),(),0,()),((a0.now,a0.servers,a0.sides,a0.master.configs,a0.master.activated,a0.masterUp,a0.lease.epoch,a0.lease.holder,a0.lease.ends,a0.places,()),(0,(),(),(),0,0,0,0,0,(),()),(y7.1.now,(),(),(),y7.1.master.activated,y7.1.masterUp,y7.1.lease.epoch,y7.1.lease.holder,y7.1.lease.ends,(),()),(y2.1.epoch,y2.1.primary,(),(),()),()),y8.1,y9.1,y7.1.servers,y7.1.sides,y7.1.master.configs,y7.1.places,y2.1.replicas,y2.1.witnesses,())).bind λe47=>Sum.elim (λe47_0=>some ((⟨e47_0.2.1.2.1.1,e47_0.2.2.2.2.1,e47_0.2.2.2.2.2.1,(⟨e47_0.2.2.2.2.2.2.1,e47_0.2.1.2.1.2.2.2.2.1⟩:kB),e47_0.2.1.2.1.2.2.2.2.2.1,(⟨e47_0.2.1.2.1.2.2.2.2.2.2.1,e47_0.2.1.2.1.2.2.2.2.2.2.2.1,e47_0.2.1.2.1.2.2.2.2.2.2.2.2.1⟩:vz),e47_0.2.2.2.2.2.2.2.1⟩:qN),e47_0.1.2.2.1,())) (λe47_1=>(Pk (((),(),(),(),(),(),0,()),e47_1.2)).bind λe85=>Sum.elim (λe85_0=>some ((⟨e85_0.2.1.2.1.1,e85_0.2.2.2.2.1,e85_0.2.2.2.2.2.1,(⟨e85_0.2.2.2.2.2.2.1,e85_0.2.1.2.1.2.2.2.2.1⟩:kB),e85_0.2.1.2.1.2.2.2.2.2.1,(⟨e85_0.2.1.2.1.2.2.2.2.2.2.1,e85_0.2.1.2.1.2.2.2.2.2.2.2.1,e85_0.2.1.2.1.2.2.2.2.2.2.2.2.1⟩:vz),e85_0.2.2.2.2.2.2.2.1⟩:qN),e85_0.1.2.2.1,())) (λe85_1=>(Pm (((),(),(),(),(),(),0,()),e85_1.2)).bind λe130=>(Hc (⟨e130.2.1.1.2.2.2.1,e130.2.1.1.2.2.2.2.1⟩:kB) e130.2.1.2.2.2.1.1).bind λy131=>some ((⟨e130.2.1.2.2.1.1,e130.2.2.1,e130.2.2.2.1,y131.1,e130.2.1.2.2.1.2.2.2.2.2.1,(⟨0,0,0⟩:vz),e130.2.2.2.2.2.1⟩:qN),0,())) e85) e47)))) none)) none))))
def PC[dL] :=FH 274 Tryz.f274 Tn Oc (λx=>JL x.1) [F4,Uj,Fo,Pj,Td,U5,I3,Nj] [Tq,Ts,Tu] (by kernel_rfl) λx=>by simp only[JL,tm];kernel_rfl
def IL(a0:qN)(a1:Int):Option (Bool×Unit):=
 (Fi a0).bind λy1=>br y1.1 ((Fn a1 0 4).bind λy2=>some (y2.1,())) (some (false,()))
def Nn[dL] :=FH 198 Tryz.f198 LD [.b] (λx=>IL x.1 x.2.1) [Fo,FP] [] (by kernel_rfl) λx=>by simp only[IL,tm];kernel_rfl
def Jp(a0:qN)(a1:Int):Option (qN×Int×Unit):=
 (FE a0).bind λy1=>(IL a0 a1).bind λy2=>br (!y2.1) (some (y1.1,1,())) (iteP (0<=a1) ((a0.servers[a1.toNat]?).bind λx3=>br (!x3.up) (some (y1.1,2,())) (iteP (0<=a1/\a1< (y1.1.servers.length:Int)) ((y1.1.servers[a1.toNat]?).bind λx4=>some ((⟨y1.1.now,(y1.1.servers.set a1.toNat (⟨false,x4.intact,x4.version,x4.epoch,x4.config,x4.first,x4.log,x4.commit,x4.learned⟩:qQ)),y1.1.sides,y1.1.master,y1.1.masterUp,y1.1.lease,y1.1.places⟩:qN),0,())) none)) none)
def Ta[dL] :=FH 275 Tryz.f275 LD Oc (λx=>Jp x.1 x.2.1) [F4,Nn] [] (by kernel_rfl) λx=>by simp only[Jp,tm];kernel_rfl
def Iu(a0:qN)(a1:Int):Option (qN×Int×Unit):=
 (FE a0).bind λy1=>(IL a0 a1).bind λy2=>br (!y2.1) (some (y1.1,1,())) (iteP (0<=a1) ((a0.servers[a1.toNat]?).bind λx3=>br x3.up (some (y1.1,1,())) (iteP (0<=a1/\a1< (y1.1.servers.length:Int)) ((y1.1.servers[a1.toNat]?).bind λx4=>some ((⟨y1.1.now,(y1.1.servers.set a1.toNat (⟨true,x4.intact,x4.version,x4.epoch,x4.config,x4.first,x4.log,x4.commit,x4.learned⟩:qQ)),y1.1.sides,y1.1.master,y1.1.masterUp,y1.1.lease,y1.1.places⟩:qN),0,())) none)) none)
def Rr[dL] :=FH 276 Tryz.f276 LD Oc (λx=>Iu x.1 x.2.1) [F4,Nn] [] (by kernel_rfl) λx=>by simp only[Iu,tm];kernel_rfl
def LS(a0:qQ):Option (qQ×Unit):=
 some ((⟨a0.up,false,a0.version,0,(⟨0,0,([]:List Int),([]:List Int)⟩:om),0,([]:List sf),0,([]:List sf)⟩:qQ),())
def Ur[dL] :=FH 199 Tryz.f199 Vc YY (λx=>LS x.1) [] [] (by kernel_rfl) λx=>by simp only[LS,tm];kernel_rfl
def Mb(a0:qN)(a1:Int):Option (qN×Int×Unit):=
 (FE a0).bind λy1=>(IL a0 a1).bind λy2=>br (!y2.1) (some (y1.1,1,())) (iteP (0<=a1) ((a0.servers[a1.toNat]?).bind λx3=>(LS x3).bind λy4=>iteP (0<=a1/\a1< (y1.1.servers.length:Int)) ((y1.1.servers[a1.toNat]?).bind λ_=>some ((⟨y1.1.now,(y1.1.servers.set a1.toNat y4.1),y1.1.sides,y1.1.master,y1.1.masterUp,y1.1.lease,y1.1.places⟩:qN),0,())) none) none)
def VP[dL] :=FH 130 Tryz.f130 LD Oc (λx=>Mb x.1 x.2.1) [F4,Nn,Ur] [] (by kernel_rfl) λx=>by simp only[Mb,tm];kernel_rfl
def Mc(a0:List Int)(a1:Int)(a2:Int):Option ((List Int)×Bool×Unit):=
 iteP ((([]:List Int)++a0).length*8<=2 ^ 40) ((Hh a0).bind λy1=>br (!y1.1) (some ((([]:List Int)++a0),false,())) ((Fn a1 0 4).bind λy2=>br (!y2.1) (some ((([]:List Int)++a0),false,())) ((Fn a2 0 3).bind λy3=>br (!y3.1) (some ((([]:List Int)++a0),false,())) (iteP (0<=a1/\a1< ((([]:List Int)++a0).length:Int)) (((([]:List Int)++a0)[a1.toNat]?).bind λ_=>some (((([]:List Int)++a0).set a1.toNat a2),true,())) none)))) none
def VQ[dL] :=FH 297 Tryz.f297 X0 [.ls (.i .i64),.b] (λx=>Mc x.1 x.2.1 x.2.2.1) [NP,FP] [] (by kernel_rfl) λx=>by simp only[Mc,tm];kernel_rfl
def Kk(a0:qN)(a1:Int)(a2:Int):Option (qN×Int×Unit):=
 (FE a0).bind λy1=>(Mc a0.sides a1 a2).bind λy2=>(Fi a0).bind λy3=>br (!y3.1) (some (y1.1,1,())) (br (!y2.2.1) (some (y1.1,1,())) (some ((⟨y1.1.now,y1.1.servers,y2.1,y1.1.master,y1.1.masterUp,y1.1.lease,y1.1.places⟩:qN),0,())))
def Ul[dL] :=FH 277 Tryz.f277 Rz Oc (λx=>Kk x.1 x.2.1 x.2.2.1) [F4,VQ,Fo] [] (by kernel_rfl) λx=>by simp only[Kk,tm];kernel_rfl
def Ko(a0:qN)(a1:Int):Option (qN×Int×Unit):=
 (FE a0).bind λy1=>(Fi a0).bind λy2=>br (!y2.1) (some (y1.1,1,())) ((Fn a1 0 3).bind λy3=>br (!y3.1) (some (y1.1,1,())) (some ((⟨y1.1.now,y1.1.servers,y1.1.sides,y1.1.master,a1,y1.1.lease,y1.1.places⟩:qN),0,())))
def Up[dL] :=FH 278 Tryz.f278 LD Oc (λx=>Ko x.1 x.2.1) [F4,Fo,FP] [] (by kernel_rfl) λx=>by simp only[Ko,tm];kernel_rfl
def KM(a0:qN)(a1:Int):Option (qN×Int×Unit):=
 (FE a0).bind λy1=>(Fi a0).bind λy2=>br (!y2.1) (some (y1.1,1,())) ((Fn a1 0 (IntKind.wrap .i64 (999-a0.now))).bind λy3=>br (!y3.1) (some (y1.1,1,())) (some ((⟨(IntKind.wrap .i64 (a0.now+a1)),y1.1.servers,y1.1.sides,y1.1.master,y1.1.masterUp,y1.1.lease,y1.1.places⟩:qN),0,())))
def R6[dL] :=FH 279 Tryz.f279 LD Oc (λx=>KM x.1 x.2.1) [F4,Fo,FP] [] (by kernel_rfl) λx=>by simp only[KM,tm];kernel_rfl
def Lq(a0:qN)(a1:Int)(a2:Int):Option (Bool×Unit):=
 (Fi a0).bind λy1=>br (!y1.1) (some (false,())) ((Gw a0.sides a1 a2).bind λy2=>br (!y2.1) (some (false,())) (br (a1==a2) (some (false,())) (iteP (0<=a1) ((a0.servers[a1.toNat]?).bind λx3=>(GO x3.config a1).bind λy4=>br x3.up (iteP (0<=a2) ((a0.servers[a2.toNat]?).bind λx5=>br x5.up (br (y4.1==1) (br (x3.config.epoch==a0.master.activated) ((GO x3.config a2).bind λy6=>some ((y6.1==0),())) (some (false,()))) (br (y4.1==2) (br (x3.config.epoch==a0.master.activated) ((GO x3.config a2).bind λy7=>some ((y7.1==0),())) (some (false,()))) (some (false,())))) (some (false,()))) none) (some (false,()))) none)))
def U8[dL] :=FH 305 Tryz.f305 Rz [.b] (λx=>Lq x.1 x.2.1 x.2.2.1) [Fo,KR,Nm] [] (by kernel_rfl) λx=>by simp only[Lq,tm];kernel_rfl
abbrev M3:LX:=⟨⟨[(0,.cl (.int .i64)),WA,Sv],[],[],0,31⟩,[(.ext 0,⟨[WA,Sv],[],[],0,31⟩)],[],[0,3,4],[3,4]⟩
def K5(s: (Int×ByteArray×Bool×Unit)×Unit×Unit):M3.R:=
 br (!(s.1.1==0)) (let j5 (p4:Int):M3.R:=iteP (0< ([(IntKind.wrap .u8 (IntKind.wrap .i64 (48+p4)))]:List Int).length/\0+([(IntKind.wrap .u8 (IntKind.wrap .i64 (48+p4)))]:List Int).length<=([(IntKind.wrap .u8 (IntKind.wrap .i64 (48+p4)))]:List Int).length) (iteP ((Cu ((([(IntKind.wrap .u8 (IntKind.wrap .i64 (48+p4)))]:List Int).drop 0).take (([(IntKind.wrap .u8 (IntKind.wrap .i64 (48+p4)))]:List Int).length))).size+s.1.2.1.size<=2 ^ 40) (some (.inl (((IntKind.wrap .i64 (Int.tdiv s.1.1 10)),((Cu ((([(IntKind.wrap .u8 (IntKind.wrap .i64 (48+p4)))]:List Int).drop 0).take (([(IntKind.wrap .u8 (IntKind.wrap .i64 (48+p4)))]:List Int).length)))++s.1.2.1),s.1.2.2),(()),(())))) none) none;br (decide ((Int.tmod s.1.1 10)<0)) (j5 (IntKind.wrap .i64 (0-(Int.tmod s.1.1 10)))) (j5 (Int.tmod s.1.1 10))) (some (.inr (s.1.2,(()),(()))))
def Tg:=md K5
def Tw[dL] :=HP Tryz.f313 [0] M3 K5 [] [] (by kernel_rfl) λs=>by simp only[K5,tm];kernel_rfl
def GB(a0:Int):Option (ByteArray×Unit):=
 br (a0==0) (some ((⟨⟨[48]⟩⟩:ByteArray),())) ((Tg ((a0,ByteArray.empty,(decide (a0<0)),()),(()),(()))).bind λe6=>br e6.1.2.1 (iteP ((⟨⟨[45]⟩⟩:ByteArray).size+e6.1.1.size<=2 ^ 40) (some (((⟨⟨[45]⟩⟩:ByteArray)++e6.1.1),())) none) (some (e6.1.1,())))
def Q0[dL] :=FH 313 Tryz.f313 Uz [.s] (λx=>GB x.1) [] [Tw] (by kernel_rfl) λx=>by simp only[GB,tm];kernel_rfl
def L9(a0:Op):Option (ByteArray×Unit):=
 (FL a0).bind λy1=>br (!y1.1) (some (ByteArray.empty,())) ((GB a0.client).bind λy2=>iteP (y2.1.size+(⟨⟨[46]⟩⟩:ByteArray).size<=2 ^ 40) ((GB a0.seq).bind λy3=>iteP ((y2.1++(⟨⟨[46]⟩⟩:ByteArray)).size+y3.1.size<=2 ^ 40) (iteP (((y2.1++(⟨⟨[46]⟩⟩:ByteArray))++y3.1).size+(⟨⟨[32]⟩⟩:ByteArray).size<=2 ^ 40) (br (a0.kind==1) (iteP ((((y2.1++(⟨⟨[46]⟩⟩:ByteArray))++y3.1)++(⟨⟨[32]⟩⟩:ByteArray)).size+(⟨⟨[119,114,105,116,101,32]⟩⟩:ByteArray).size<=2 ^ 40) ((GB a0.object).bind λy4=>iteP (((((y2.1++(⟨⟨[46]⟩⟩:ByteArray))++y3.1)++(⟨⟨[32]⟩⟩:ByteArray))++(⟨⟨[119,114,105,116,101,32]⟩⟩:ByteArray)).size+y4.1.size<=2 ^ 40) (iteP ((((((y2.1++(⟨⟨[46]⟩⟩:ByteArray))++y3.1)++(⟨⟨[32]⟩⟩:ByteArray))++(⟨⟨[119,114,105,116,101,32]⟩⟩:ByteArray))++y4.1).size+(⟨⟨[32]⟩⟩:ByteArray).size<=2 ^ 40) ((GB a0.value).bind λy5=>iteP (((((((y2.1++(⟨⟨[46]⟩⟩:ByteArray))++y3.1)++(⟨⟨[32]⟩⟩:ByteArray))++(⟨⟨[119,114,105,116,101,32]⟩⟩:ByteArray))++y4.1)++(⟨⟨[32]⟩⟩:ByteArray)).size+y5.1.size<=2 ^ 40) (some ((((((((y2.1++(⟨⟨[46]⟩⟩:ByteArray))++y3.1)++(⟨⟨[32]⟩⟩:ByteArray))++(⟨⟨[119,114,105,116,101,32]⟩⟩:ByteArray))++y4.1)++(⟨⟨[32]⟩⟩:ByteArray))++y5.1),())) none) none) none) none) (iteP ((((y2.1++(⟨⟨[46]⟩⟩:ByteArray))++y3.1)++(⟨⟨[32]⟩⟩:ByteArray)).size+(⟨⟨[115,119,97,112,32]⟩⟩:ByteArray).size<=2 ^ 40) ((GB a0.object).bind λy6=>iteP (((((y2.1++(⟨⟨[46]⟩⟩:ByteArray))++y3.1)++(⟨⟨[32]⟩⟩:ByteArray))++(⟨⟨[115,119,97,112,32]⟩⟩:ByteArray)).size+y6.1.size<=2 ^ 40) (iteP ((((((y2.1++(⟨⟨[46]⟩⟩:ByteArray))++y3.1)++(⟨⟨[32]⟩⟩:ByteArray))++(⟨⟨[115,119,97,112,32]⟩⟩:ByteArray))++y6.1).size+(⟨⟨[32]⟩⟩:ByteArray).size<=2 ^ 40) ((GB a0.old).bind λy7=>iteP (((((((y2.1++(⟨⟨[46]⟩⟩:ByteArray))++y3.1)++(⟨⟨[32]⟩⟩:ByteArray))++(⟨⟨[115,119,97,112,32]⟩⟩:ByteArray))++y6.1)++(⟨⟨[32]⟩⟩:ByteArray)).size+y7.1.size<=2 ^ 40) (iteP ((((((((y2.1++(⟨⟨[46]⟩⟩:ByteArray))++y3.1)++(⟨⟨[32]⟩⟩:ByteArray))++(⟨⟨[115,119,97,112,32]⟩⟩:ByteArray))++y6.1)++(⟨⟨[32]⟩⟩:ByteArray))++y7.1).size+(⟨⟨[32]⟩⟩:ByteArray).size<=2 ^ 40) ((GB a0.value).bind λy8=>iteP (((((((((y2.1++(⟨⟨[46]⟩⟩:ByteArray))++y3.1)++(⟨⟨[32]⟩⟩:ByteArray))++(⟨⟨[115,119,97,112,32]⟩⟩:ByteArray))++y6.1)++(⟨⟨[32]⟩⟩:ByteArray))++y7.1)++(⟨⟨[32]⟩⟩:ByteArray)).size+y8.1.size<=2 ^ 40) (some ((((((((((y2.1++(⟨⟨[46]⟩⟩:ByteArray))++y3.1)++(⟨⟨[32]⟩⟩:ByteArray))++(⟨⟨[115,119,97,112,32]⟩⟩:ByteArray))++y6.1)++(⟨⟨[32]⟩⟩:ByteArray))++y7.1)++(⟨⟨[32]⟩⟩:ByteArray))++y8.1),())) none) none) none) none) none) none)) none) none) none)
def VN[dL] :=FH 314 Tryz.f314 Wv [.s] (λx=>L9 x.1) [Lu,Q0] [] (by kernel_rfl) λx=>by simp only[L9,tm];kernel_rfl
abbrev M4:LX:=⟨⟨[Pb,WA,MH],[],[],0,38⟩,[(.ext 0,⟨[WA],[],[],0,38⟩)],[],[0,3,4],[3]⟩
def K6(s: (List sf×ByteArray×Int×Unit)×Unit×Unit):M4.R:=
 br (decide (s.1.2.2.1< (s.1.1.length:Int))) (let j10 (p5:ByteArray):M4.R:=iteP (0<=s.1.2.2.1) ((s.1.1[s.1.2.2.1.toNat]?).bind λx6=>(GB x6.epoch).bind λy7=>iteP (p5.size+y7.1.size<=2 ^ 40) (iteP ((p5++y7.1).size+(⟨⟨[58]⟩⟩:ByteArray).size<=2 ^ 40) (iteP (0<=s.1.2.2.1) ((s.1.1[s.1.2.2.1.toNat]?).bind λx8=>(L9 x8.op).bind λy9=>iteP (((p5++y7.1)++(⟨⟨[58]⟩⟩:ByteArray)).size+y9.1.size<=2 ^ 40) (some (.inl ((s.1.1,(((p5++y7.1)++(⟨⟨[58]⟩⟩:ByteArray))++y9.1),(IntKind.wrap .i64 (s.1.2.2.1+1)),()),(()),(())))) none) none) none) none) none;br (decide (s.1.2.2.1>0)) (iteP (s.1.2.1.size+(⟨⟨[59]⟩⟩:ByteArray).size<=2 ^ 40) (j10 (s.1.2.1++(⟨⟨[59]⟩⟩:ByteArray))) none) (j10 s.1.2.1)) (some (.inr ((s.1.2.1,()),(()),(()))))
def Th:=md K6
def Tx[dL] :=HP Tryz.f312 [0] M4 K6 [Q0,VN] [] (by kernel_rfl) λs=>by simp only[K6,tm];kernel_rfl
def Lh(a0:List sf):Option (ByteArray×Unit):=
 (Gp a0).bind λy1=>br (!y1.1) (some (ByteArray.empty,())) (br ((a0.length:Int)==0) (some ((⟨⟨[110,111,110,101]⟩⟩:ByteArray),())) ((Th ((a0,ByteArray.empty,0,()),(()),(()))).bind λe11=>some e11.1))
def U0[dL] :=FH 312 Tryz.f312 QI [.s] (λx=>Lh x.1) [LW] [Tx] (by kernel_rfl) λx=>by simp only[Lh,tm];kernel_rfl
abbrev Qm:LX:=⟨⟨[(0,.cl (.str)),NS,MH],[],[],0,21⟩,[(.ext 0,⟨[NS],[],[],0,21⟩)],[],[0,3,4],[3]⟩
def LN(s: (ByteArray×Int×Int×Unit)×Unit×Unit):Qm.R:=
 br (decide (s.1.2.2.1< (s.1.1.size:Int))) (iteP (0<=s.1.2.2.1) ((s.1.1[s.1.2.2.1.toNat]?).bind λx4=>some (.inl ((s.1.1,(Int.tmod (IntKind.wrap .i64 ((IntKind.wrap .i64 ((IntKind.wrap .i64 (s.1.2.1*257))+(IntKind.wrap .i64 (x4.toNat:Int))))+1)) 9949),(IntKind.wrap .i64 (s.1.2.2.1+1)),()),(()),(())))) none) (some (.inr ((s.1.2.1,()),(()),(()))))
def Ux:=md LN
def UH[dL] :=HP Tryz.f311 [0] Qm LN [] [] (by kernel_rfl) λs=>by simp only[LN,tm];kernel_rfl
def L7(a0:ByteArray):Option (Int×Unit):=
 (Ux ((a0,5,0,()),(()),(()))).bind λe5=>some e5.1
def VK[dL] :=FH 311 Tryz.f311 [.ty (.s)] KB (λx=>L7 x.1) [] [UH] (by kernel_rfl) λx=>by simp only[L7,tm];kernel_rfl
abbrev OP:LX:=⟨⟨[Pb,Rb,MH,Ms],[],Ia,0,37⟩,[(.ext 0,⟨[Rb],[],Ia,0,37⟩)],[],[0,3,4,5],[3]⟩
def J5(s: (List sf×Unit×Int×Int×Unit)×Unit×List Int×Unit):OP.R:=
 br (decide (s.1.2.2.2.1< (s.1.1.length:Int))) (iteP (0<=s.1.2.2.2.1/\s.1.2.2.2.1<=(IntKind.wrap .i64 (s.1.2.2.2.1+1))/\(IntKind.wrap .i64 (s.1.2.2.2.1+1))<=(s.1.1.length:Int)) ((Lh ((s.1.1.drop s.1.2.2.2.1.toNat).take ((IntKind.wrap .i64 (s.1.2.2.2.1+1)).toNat-s.1.2.2.2.1.toNat))).bind λy6=>(L7 y6.1).bind λy7=>iteP ((s.2.2.1++([(Int.tmod (IntKind.wrap .i64 ((IntKind.wrap .i64 (s.1.2.2.1*31))+y7.1)) 9973)]:List Int)).length*8<=2 ^ 40) (some (.inl ((s.1.1,(),(Int.tmod (IntKind.wrap .i64 ((IntKind.wrap .i64 (s.1.2.2.1*31))+y7.1)) 9973),(IntKind.wrap .i64 (s.1.2.2.2.1+1)),()),(()),(s.2.2.1++([(Int.tmod (IntKind.wrap .i64 ((IntKind.wrap .i64 (s.1.2.2.1*31))+y7.1)) 9973)]:List Int)),()))) none) none) (some (.inr (((),()),(()),s.2.2)))
def Sl:=md J5
def SK[dL] :=HP Tryz.f310 [0] OP J5 [U0,VK] [] (by kernel_rfl) λs=>by simp only[J5,tm];kernel_rfl
def Kg(a0:List sf):Option ((List Int)×Unit):=
 (Gp a0).bind λy1=>br (!y1.1) (some (([]:List Int),())) (iteP ((([]:List Int)++([11]:List Int)).length*8<=2 ^ 40) ((Sl ((a0,(),11,0,()),(()),(([]:List Int)++([11]:List Int)),())).bind λe8=>some e8.2.2) none)
def Ug[dL] :=FH 310 Tryz.f310 QI KG (λx=>Kg x.1) [LW] [SK] (by kernel_rfl) λx=>by simp only[Kg,tm];kernel_rfl
def KL(a0:List sf)(a1:Int):Option (Int×Unit):=
 (Kg a0).bind λy1=>(Fn a1 0 (IntKind.wrap .i64 ((y1.1.length:Int)-1))).bind λy2=>br (!y2.1) (some ((-1),())) (iteP (0<=a1/\a1< (y1.1.length:Int)) ((y1.1[a1.toNat]?).bind λx3=>some (x3,())) none)
def R3[dL] :=FH 309 Tryz.f309 X1 KB (λx=>KL x.1 x.2.1) [Ug,FP] [] (by kernel_rfl) λx=>by simp only[KL,tm];kernel_rfl
def JE(a0:qQ):Option (Int×Unit):=
 (KL a0.learned (a0.learned.length:Int)).bind λy1=>some (y1.1,())
def Rq[dL] :=FH 307 Tryz.f307 Vc KB (λx=>JE x.1) [R3] [] (by kernel_rfl) λx=>by simp only[JE,tm];kernel_rfl
def Km(a0:List sf)(a1:Int)(a2:Int):Option (Bool×Unit):=
 br (decide (a2≥0)) ((KL a0 a1).bind λy1=>some ((y1.1==a2),())) (some (false,()))
def R9[dL] :=FH 306 Tryz.f306 Zl [.b] (λx=>Km x.1 x.2.1 x.2.2.1) [R3] [] (by kernel_rfl) λx=>by simp only[Km,tm];kernel_rfl
def Jn(a0:qN)(a1:Int)(a2:Int):Option (Int×Unit):=
 (Lq a0 a1 a2).bind λy1=>br (!y1.1) (some ((-1),())) (iteP (0<=a1) ((a0.servers[a1.toNat]?).bind λx2=>(FZ x2).bind λy3=>iteP (0<=a2) ((a0.servers[a2.toNat]?).bind λx4=>iteP (0<=a2) ((a0.servers[a2.toNat]?).bind λx5=>(JE x5).bind λy6=>(Km y3.1 (x4.learned.length:Int) y6.1).bind λy7=>br (!y7.1) (some ((IntKind.wrap .i64 ((y3.1.length:Int)-0)),())) (some ((IntKind.wrap .i64 ((y3.1.length:Int)-(x4.learned.length:Int))),()))) none) none) none)
def S8[dL] :=FH 298 Tryz.f298 Rz KB (λx=>Jn x.1 x.2.1 x.2.2.1) [U8,JH,Rq,R9] [] (by kernel_rfl) λx=>by simp only[Jn,tm];kernel_rfl
def Jo(a0:qN)(a1:Int)(a2:Int)(a3:Int):Option (qN×Int×Unit):=
 (FE a0).bind λy1=>(Jn a0 a1 a2).bind λy2=>br (decide (y2.1<0)) (some (y1.1,0,())) ((Fn a3 1 4).bind λy3=>br (!y3.1) (some (y1.1,0,())) (iteP (0<=a1) ((a0.servers[a1.toNat]?).bind λx4=>(FZ x4).bind λy5=>iteP (0<=(0:Int)/\(0:Int)<=(IntKind.wrap .i64 ((IntKind.wrap .i64 ((y5.1.length:Int)-y2.1))+(if a3<y2.1 then a3 else y2.1)))/\(IntKind.wrap .i64 ((IntKind.wrap .i64 ((y5.1.length:Int)-y2.1))+(if a3<y2.1 then a3 else y2.1)))<=((y5.1.length:Nat):Int)) (iteP ((0+(0:Int).toNat)+((IntKind.wrap .i64 ((IntKind.wrap .i64 ((y5.1.length:Int)-y2.1))+(if a3<y2.1 then a3 else y2.1))).toNat-(0:Int).toNat)<=y5.1.length) ((GP ((y5.1.drop (0+(0:Int).toNat)).take ((IntKind.wrap .i64 ((IntKind.wrap .i64 ((y5.1.length:Int)-y2.1))+(if a3<y2.1 then a3 else y2.1))).toNat-(0:Int).toNat))).bind λy6=>iteP (0<=a2/\a2< (y1.1.servers.length:Int)) ((y1.1.servers[a2.toNat]?).bind λx7=>some ((⟨y1.1.now,(y1.1.servers.set a2.toNat (⟨x7.up,x7.intact,x7.version,x7.epoch,x7.config,x7.first,x7.log,x7.commit,y6.1⟩:qQ)),y1.1.sides,y1.1.master,y1.1.masterUp,y1.1.lease,y1.1.places⟩:qN),(if a3<y2.1 then a3 else y2.1),())) none) none) none) none))
def S9[dL] :=FH 280 Tryz.f280 [.ty (.st .cluster),.ty (.i .i64),.ty (.i .i64),.ty (.i .i64)] Oc (λx=>Jo x.1 x.2.1 x.2.2.1 x.2.2.2.1) [F4,S8,FP,JH,Ju] [] (by kernel_rfl) λx=>by simp only[Jo,tm];kernel_rfl
def Iw(a0:qN)(a1:Int):Option (qN×Int×Unit):=
 (FE a0).bind λy1=>(IL a0 a1).bind λy2=>br (!y2.1) (some (y1.1,1,())) (iteP (0<=a1) ((a0.servers[a1.toNat]?).bind λx3=>br (x3.version==2) (some (y1.1,1,())) (iteP (0<=a1) ((a0.servers[a1.toNat]?).bind λx4=>br (!x4.up) (some (y1.1,2,())) (iteP (0<=a1/\a1< (y1.1.servers.length:Int)) ((y1.1.servers[a1.toNat]?).bind λx5=>some ((⟨y1.1.now,(y1.1.servers.set a1.toNat (⟨x5.up,x5.intact,2,x5.epoch,x5.config,x5.first,x5.log,x5.commit,x5.learned⟩:qQ)),y1.1.sides,y1.1.master,y1.1.masterUp,y1.1.lease,y1.1.places⟩:qN),0,())) none)) none)) none)
def Rt[dL] :=FH 281 Tryz.f281 LD Oc (λx=>Iw x.1 x.2.1) [F4,Nn] [] (by kernel_rfl) λx=>by simp only[Iw,tm];kernel_rfl
def H2(a0:List sf):Option (Bool×Unit):=
 (Hk a0).bind λy1=>some (y1.1,())
def Oz[dL] :=FH 67 Tryz.f67 QI [.b] (λx=>H2 x.1) [Mj] [] (by kernel_rfl) λx=>by simp only[H2,tm];kernel_rfl
abbrev I5:LX:=⟨⟨[KY,MZ,Qh,WB,X3,Rc],[JP,Lx,Tp,ZN],Vi,0,80⟩,[(.ret,⟨[KY,OH,Ms,Nx],[Tp,Tp],Vi,0,80⟩),(.ext 0,⟨[KY,OH,(5,.cl (.dead)),Nx],[Lx,Tp],Vi,0,80⟩)],[],[1,2,4,6,7,8],[1,4,5,6]⟩
def HA(s: (Int×Unit×Unit×Unit×Unit×Int×Unit)×(M1×LF×LF×ZF×Unit)×List qQ×List Int×List om×List vB×Unit):I5.R:=
 br (decide (s.1.2.2.2.2.2.1< (s.2.1.1.2.1.length:Int))) ((IK (⟨s.2.1.2.2.2.1.2.2.2.2.1,s.2.1.2.2.2.1.2.2.2.2.2.1,s.2.1.2.2.2.1.2.2.2.2.2.2.1,s.2.1.2.2.2.1.2.2.2.2.2.2.2.1⟩:om)).bind λy47=>br (!y47.1) (iteP (0<=s.1.2.2.2.2.2.1) ((s.2.1.1.2.1[s.1.2.2.2.2.2.1.toNat]?).bind λx48=>(Gv x48.config (⟨s.2.1.2.2.2.1.2.2.2.2.1,s.2.1.2.2.2.1.2.2.2.2.2.1,s.2.1.2.2.2.1.2.2.2.2.2.2.1,s.2.1.2.2.2.1.2.2.2.2.2.2.2.1⟩:om)).bind λy49=>let j52:I5.R:=some (.inl ((s.1.1,(),(),(),(),(IntKind.wrap .i64 (s.1.2.2.2.2.2.1+1)),()),s.2));br y49.1 (iteP (0<=s.1.2.2.2.2.2.1) ((s.2.1.1.2.1[s.1.2.2.2.2.2.1.toNat]?).bind λx50=>(H2 x50.log).bind λy51=>br y51.1 (some (.inr (.inl ((s.1.1,(),6,(),()),(s.2.1.2.2.1,s.2.1.2.2.1,()),s.2.2)))) (j52)) none) (j52)) none) (some (.inr (.inr ((s.1.1,(),(),(),()),(s.2.1.2.1,s.2.1.2.2.1,()),s.2.2))))) (some (.inr (.inr ((s.1.1,(),(),(),()),(s.2.1.2.1,s.2.1.2.2.1,()),s.2.2))))
def OF:=md HA
def OW[dL] :=HP Tryz.f282 [0] I5 HA [Oz,O5,Ku] [] (by kernel_rfl) λs=>by simp only[HA,tm];kernel_rfl
def HD(a0:qN)(a1:Int):Option (qN×Int×Unit):=
 (FE a0).bind λy1=>(IL a0 a1).bind λy2=>br (!y2.1) (some (y1.1,1,())) (iteP (0<=a1) ((a0.servers[a1.toNat]?).bind λx3=>br (x3.version==1) (some (y1.1,1,())) (iteP (0<=a1) ((a0.servers[a1.toNat]?).bind λx4=>br (!x4.up) (some (y1.1,2,())) (iteP (0<=a1) ((a0.servers[a1.toNat]?).bind λx5=>(H2 x5.learned).bind λy6=>br y6.1 (some (y1.1,6,())) ((OF ((a1,(),(),(),(),0,()),((a0.now,a0.servers,a0.sides,a0.master.configs,a0.master.activated,a0.masterUp,a0.lease.epoch,a0.lease.holder,a0.lease.ends,a0.places,()),(0,(),(),(),0,0,0,0,0,(),()),(y1.1.now,(),(),(),y1.1.master.activated,y1.1.masterUp,y1.1.lease.epoch,y1.1.lease.holder,y1.1.lease.ends,(),()),(x5.up,x5.intact,x5.version,x5.epoch,x5.config.epoch,x5.config.primary,x5.config.replicas,x5.config.witnesses,x5.first,x5.log,x5.commit,x5.learned,()),()),y1.1.servers,y1.1.sides,y1.1.master.configs,y1.1.places,())).bind λe53=>Sum.elim (λe53_0=>some ((⟨e53_0.2.1.1.1,e53_0.2.2.1,e53_0.2.2.2.1,(⟨e53_0.2.2.2.2.1,e53_0.2.1.1.2.2.2.2.1⟩:kB),e53_0.2.1.1.2.2.2.2.2.1,(⟨e53_0.2.1.1.2.2.2.2.2.2.1,e53_0.2.1.1.2.2.2.2.2.2.2.1,e53_0.2.1.1.2.2.2.2.2.2.2.2.1⟩:vz),e53_0.2.2.2.2.2.1⟩:qN),e53_0.1.2.2.1,())) (λe53_1=>iteP (0<=e53_1.1.1/\e53_1.1.1< (e53_1.2.2.1.length:Int)) ((e53_1.2.2.1[e53_1.1.1.toNat]?).bind λx54=>some ((⟨e53_1.2.1.2.1.1,(e53_1.2.2.1.set e53_1.1.1.toNat (⟨x54.up,x54.intact,1,x54.epoch,x54.config,x54.first,x54.log,x54.commit,x54.learned⟩:qQ)),e53_1.2.2.2.1,(⟨e53_1.2.2.2.2.1,e53_1.2.1.2.1.2.2.2.2.1⟩:kB),e53_1.2.1.2.1.2.2.2.2.2.1,(⟨e53_1.2.1.2.1.2.2.2.2.2.2.1,e53_1.2.1.2.1.2.2.2.2.2.2.2.1,e53_1.2.1.2.1.2.2.2.2.2.2.2.2.1⟩:vz),e53_1.2.2.2.2.2.1⟩:qN),0,())) none) e53)) none)) none)) none)
def P6[dL] :=FH 282 Tryz.f282 LD Oc (λx=>HD x.1 x.2.1) [F4,Nn,Oz] [OW] (by kernel_rfl) λx=>by simp only[HD,tm];kernel_rfl
abbrev MA:LX:=⟨⟨[J3,Ra,Nw,MP],[JP,Yg],ZS,0,64⟩,[(.ret,⟨[Qg,Sw],[ZO],aac,0,64⟩),(.ext 0,⟨[Pa,Sw],[ZO],aac,0,64⟩)],[],[1,3,5,6],[2,3]⟩
def Ik(s:YX×(M1×UB×Unit)×List Int×List Int×List Int×Unit):MA.R:=
 br (decide (s.1.2.2.2.1< (s.2.2.1.length:Int))) (iteP (0<=s.1.2.2.2.1/\s.1.2.2.2.1< (s.2.2.1.length:Int)) ((s.2.2.1[s.1.2.2.2.1.toNat]?).bind λx23=>(HM (⟨s.2.1.1.1,s.2.1.1.2.1,s.2.1.1.2.2.1,(⟨s.2.1.1.2.2.2.1,s.2.1.1.2.2.2.2.1⟩:kB),s.2.1.1.2.2.2.2.2.1,(⟨s.2.1.1.2.2.2.2.2.2.1,s.2.1.1.2.2.2.2.2.2.2.1,s.2.1.1.2.2.2.2.2.2.2.2.1⟩:vz),s.2.1.1.2.2.2.2.2.2.2.2.2.1⟩:qN) s.2.1.2.1.2.1 x23).bind λy24=>br (!y24.1) (some (.inr (.inl (((-1),(),()),s.2.1.2,s.2.2.2)))) (some (.inl (((),(),(),(IntKind.wrap .i64 (s.1.2.2.2.1+1)),()),s.2)))) none) (some (.inr (.inr (((),(),()),s.2.1.2,s.2.2.2))))
def PH:=md Ik
def PR[dL] :=HP Tryz.f308 [0] MA Ik [Sc] [] (by kernel_rfl) λs=>by simp only[Ik,tm];kernel_rfl
def H4(a0:qN):Option (Int×Unit):=
 (F0 a0.master).bind λy1=>(Fi a0).bind λy2=>br (!y2.1) (some ((-1),())) (br (!y1.2.1) (some ((-1),())) (iteP (0<=y1.1.primary) ((a0.servers[y1.1.primary.toNat]?).bind λx3=>(FG x3 y1.1.primary).bind λy4=>br (!y4.1) (some ((-1),())) (iteP (0<=y1.1.primary) ((a0.servers[y1.1.primary.toNat]?).bind λx5=>br (!(x5.config.epoch==y1.1.epoch)) (some ((-1),())) ((FX y1.1).bind λy6=>(PH (((),(),(),0,()),((a0.now,a0.servers,a0.sides,a0.master.configs,a0.master.activated,a0.masterUp,a0.lease.epoch,a0.lease.holder,a0.lease.ends,a0.places,()),(y1.1.epoch,y1.1.primary,(),(),()),()),y6.1,y1.1.replicas,y1.1.witnesses,())).bind λe25=>Sum.elim (λe25_0=>some (e25_0.1.1,())) (λe25_1=>some (e25_1.2.1.1.2.1,())) e25)) none)) none))
def Qz[dL] :=FH 308 Tryz.f308 Tn KB (λx=>H4 x.1) [GY,Fo,H9,I3] [PR] (by kernel_rfl) λx=>by simp only[H4,tm];kernel_rfl
def JW(a0:qN):Option (Bool×Unit):=
 (H4 a0).bind λy1=>some ((decide (y1.1≥0)),())
def Q1[dL] :=FH 300 Tryz.f300 Tn [.b] (λx=>JW x.1) [Qz] [] (by kernel_rfl) λx=>by simp only[JW,tm];kernel_rfl
def Lj(a0:qN)(a1:Int):Option (Int×Unit):=
 (F0 a0.master).bind λy1=>(Fi a0).bind λy2=>br (!y2.1) (some (1,())) (br (!y1.2.1) (some (1,())) ((FK y1.1.replicas a1).bind λy3=>br (!y3.1) (some (1,())) (br (a1==y1.1.primary) (some (1,())) (br (!((a0.master.configs.length:Int)==y1.1.epoch)) (some (1,())) (br (y1.1.epoch==20) (some (1,())) (br (decide ((IntKind.wrap .i64 (a0.masterUp*2))<=3)) (some (8,())) ((JW a0).bind λy4=>br (!y4.1) (some (10,())) (iteP (0<=y1.1.primary) ((a0.sides[y1.1.primary.toNat]?).bind λx5=>br (!(x5==0)) (some (10,())) (br (decide (a0.lease.ends>0)) (br (!(a0.lease.holder==y1.1.primary)) (some (7,())) (some (0,()))) (some (0,())))) none))))))))
def U2[dL] :=FH 299 Tryz.f299 LD KB (λx=>Lj x.1 x.2.1) [GY,Fo,G4,Q1] [] (by kernel_rfl) λx=>by simp only[Lj,tm];kernel_rfl
def Iv(a0:qN)(a1:Int):Option (qN×Int×Unit):=
 (FE a0).bind λy1=>(Lj a0 a1).bind λy2=>br (!(y2.1==0)) (some (y1.1,y2.1,())) ((F0 a0.master).bind λy3=>(FF a0 y3.1.primary).bind λy4=>(HL (⟨y4.1.now,y4.1.servers,y4.1.sides,y4.1.master,y4.1.masterUp,(⟨0,0,0⟩:vz),y4.1.places⟩:qN) (⟨(IntKind.wrap .i64 (y3.1.epoch+1)),a1,y3.1.replicas,y3.1.witnesses⟩:om)).bind λy5=>(JL y5.1).bind λy6=>some (y6.1,y6.2.1,()))
def Rs[dL] :=FH 283 Tryz.f283 LD Oc (λx=>Iv x.1 x.2.1) [F4,U2,GY,LA,MV,PC] [] (by kernel_rfl) λx=>by simp only[Iv,tm];kernel_rfl
def Jr(a0:qN)(a1:Int)(a2:Int):Option (qN×Int×Unit):=
 (FE a0).bind λy1=>(Fi a0).bind λy2=>br (!y2.1) (some (y1.1,1,())) ((Fn a2 1 50).bind λy3=>br (!y3.1) (some (y1.1,1,())) ((JW a0).bind λy4=>br y4.1 (some (y1.1,0,())) ((Jf a0 a1 0).bind λy5=>br (!y5.2.1) (some (y1.1,10,())) ((HL a0 y5.1).bind λy6=>br (!(y6.2.1==0)) (some (y1.1,y6.2.1,())) ((KO a0.lease).bind λy7=>(KM y6.1 (if (IntKind.wrap .i64 (y7.1-a0.now))>0 then (IntKind.wrap .i64 (y7.1-a0.now)) else 0)).bind λy8=>br (!(y8.2.1==0)) (some (y1.1,y8.2.1,())) ((JL y8.1).bind λy9=>br (!(y9.2.1==0)) (some (y9.1,y9.2.1,())) ((Jg y9.1 y5.1.primary a2).bind λy10=>some (y10.1,y10.2.1,()))))))))
def Tc[dL] :=FH 284 Tryz.f284 Rz Oc (λx=>Jr x.1 x.2.1 x.2.2.1) [F4,Fo,FP,Q1,P7,MV,Sa,R6,PC,P8] [] (by kernel_rfl) λx=>by simp only[Jr,tm];kernel_rfl
def Nh(a0:qN)(a1:xx):Option (qN×Int×Unit):=
 let j28 (p17:Int) (p18:List qQ) (p19:List Int) (p20:List om) (p21:Int) (p22:Int) (p23:Int) (p24:Int) (p25:Int) (p26:List vB) (p27:Int):Option (qN×Int×Unit):=some ((⟨p17,p18,p19,(⟨p20,p21⟩:kB),p22,(⟨p23,p24,p25⟩:vz),p26⟩:qN),p27,());br (a1.kind==3) ((Jg a0 a1.server a1.n).bind λy1=>j28 y1.1.now y1.1.servers y1.1.sides y1.1.master.configs y1.1.master.activated y1.1.masterUp y1.1.lease.epoch y1.1.lease.holder y1.1.lease.ends y1.1.places y1.2.1) (br (a1.kind==4) ((Jf a0 a1.n a1.other).bind λy2=>br (!y2.2.1) ((FE a0).bind λy3=>some (y3.1,10,())) ((HL a0 y2.1).bind λy4=>j28 y4.1.now y4.1.servers y4.1.sides y4.1.master.configs y4.1.master.activated y4.1.masterUp y4.1.lease.epoch y4.1.lease.holder y4.1.lease.ends y4.1.places y4.2.1)) (br (a1.kind==5) ((JL a0).bind λy5=>j28 y5.1.now y5.1.servers y5.1.sides y5.1.master.configs y5.1.master.activated y5.1.masterUp y5.1.lease.epoch y5.1.lease.holder y5.1.lease.ends y5.1.places y5.2.1) (br (a1.kind==6) ((Jp a0 a1.server).bind λy6=>j28 y6.1.now y6.1.servers y6.1.sides y6.1.master.configs y6.1.master.activated y6.1.masterUp y6.1.lease.epoch y6.1.lease.holder y6.1.lease.ends y6.1.places y6.2.1) (br (a1.kind==7) ((Iu a0 a1.server).bind λy7=>j28 y7.1.now y7.1.servers y7.1.sides y7.1.master.configs y7.1.master.activated y7.1.masterUp y7.1.lease.epoch y7.1.lease.holder y7.1.lease.ends y7.1.places y7.2.1) (br (a1.kind==8) ((Mb a0 a1.server).bind λy8=>j28 y8.1.now y8.1.servers y8.1.sides y8.1.master.configs y8.1.master.activated y8.1.masterUp y8.1.lease.epoch y8.1.lease.holder y8.1.lease.ends y8.1.places y8.2.1) (br (a1.kind==9) ((Kk a0 a1.server a1.n).bind λy9=>j28 y9.1.now y9.1.servers y9.1.sides y9.1.master.configs y9.1.master.activated y9.1.masterUp y9.1.lease.epoch y9.1.lease.holder y9.1.lease.ends y9.1.places y9.2.1) (br (a1.kind==10) ((Ko a0 a1.n).bind λy10=>j28 y10.1.now y10.1.servers y10.1.sides y10.1.master.configs y10.1.master.activated y10.1.masterUp y10.1.lease.epoch y10.1.lease.holder y10.1.lease.ends y10.1.places y10.2.1) (br (a1.kind==11) ((KM a0 a1.n).bind λy11=>j28 y11.1.now y11.1.servers y11.1.sides y11.1.master.configs y11.1.master.activated y11.1.masterUp y11.1.lease.epoch y11.1.lease.holder y11.1.lease.ends y11.1.places y11.2.1) (br (a1.kind==12) ((Jo a0 a1.server a1.other a1.n).bind λy12=>br (y12.2.1==0) (j28 y12.1.now y12.1.servers y12.1.sides y12.1.master.configs y12.1.master.activated y12.1.masterUp y12.1.lease.epoch y12.1.lease.holder y12.1.lease.ends y12.1.places 11) (j28 y12.1.now y12.1.servers y12.1.sides y12.1.master.configs y12.1.master.activated y12.1.masterUp y12.1.lease.epoch y12.1.lease.holder y12.1.lease.ends y12.1.places 0)) (br (a1.kind==13) ((Iw a0 a1.server).bind λy13=>j28 y13.1.now y13.1.servers y13.1.sides y13.1.master.configs y13.1.master.activated y13.1.masterUp y13.1.lease.epoch y13.1.lease.holder y13.1.lease.ends y13.1.places y13.2.1) (br (a1.kind==14) ((HD a0 a1.server).bind λy14=>j28 y14.1.now y14.1.servers y14.1.sides y14.1.master.configs y14.1.master.activated y14.1.masterUp y14.1.lease.epoch y14.1.lease.holder y14.1.lease.ends y14.1.places y14.2.1) (br (a1.kind==15) ((Iv a0 a1.server).bind λy15=>j28 y15.1.now y15.1.servers y15.1.sides y15.1.master.configs y15.1.master.activated y15.1.masterUp y15.1.lease.epoch y15.1.lease.holder y15.1.lease.ends y15.1.places y15.2.1) ((Jr a0 a1.other a1.n).bind λy16=>j28 y16.1.now y16.1.servers y16.1.sides y16.1.master.configs y16.1.master.activated y16.1.masterUp y16.1.lease.epoch y16.1.lease.holder y16.1.lease.ends y16.1.places y16.2.1)))))))))))))
def W7[dL] :=FH 252 Tryz.f252 Zp Oc (λx=>Nh x.1 x.2.1) [P8,P7,F4,MV,PC,Ta,Rr,VP,Ul,Up,R6,S9,Rt,P6,Rs,Tc] [] (by kernel_rfl) λx=>by simp only[Nh,tm];kernel_rfl
def Md(a0:qN)(a1:xx):Option (qN×xB×Unit):=
 (Fi a0).bind λy1=>br (!y1.1) ((FE a0).bind λy2=>some (y2.1,(⟨1,(⟨false,0⟩:Result),0⟩:xB),())) ((IW a1).bind λy3=>br (!y3.1) ((FE a0).bind λy4=>some (y4.1,(⟨1,(⟨false,0⟩:Result),0⟩:xB),())) (br (a1.kind==1) ((L8 a0 a1.server a1.op).bind λy5=>some (y5.1,y5.2.1,())) (br (a1.kind==2) ((FE a0).bind λy6=>(Li a0 a1.server a1.n).bind λy7=>some (y6.1,y7.1,())) ((Nh a0 a1).bind λy8=>some (y8.1,(⟨y8.2.1,(⟨false,0⟩:Result),0⟩:xB),())))))
def VT[dL] :=FH 235 Tryz.f235 Zp ZI (λx=>Md x.1 x.2.1) [Fo,F4,R5,VL,U1,W7] [] (by kernel_rfl) λx=>by simp only[Md,tm];kernel_rfl
abbrev Pv:LX:=⟨⟨[(1,.cl (.ro (.st .event))),OH,Nx,Zx,Rc],[Lx,To],ZT,0,40⟩,[(.ext 0,⟨[OH,Nx,Zx],[Lx,To],ZT,0,40⟩)],[],[1,4,6,7,8],[4,6,7]⟩
def K9(s: (List xx×Unit×Unit×Unit×Int×Unit)×(LF×LF×Unit)×List xB×List qQ×List Int×List om×List vB×Unit):Pv.R:=
 br (decide (s.1.2.2.2.2.1< (s.1.1.length:Int))) (br (decide (s.1.2.2.2.2.1<60)) (iteP (0<=s.1.2.2.2.2.1) ((s.1.1[s.1.2.2.2.2.1.toNat]?).bind λx21=>(Md (⟨s.2.1.2.1.1,s.2.2.2.1,s.2.2.2.2.1,(⟨s.2.2.2.2.2.1,s.2.1.2.1.2.2.2.2.1⟩:kB),s.2.1.2.1.2.2.2.2.2.1,(⟨s.2.1.2.1.2.2.2.2.2.2.1,s.2.1.2.1.2.2.2.2.2.2.2.1,s.2.1.2.1.2.2.2.2.2.2.2.2.1⟩:vz),s.2.2.2.2.2.2.1⟩:qN) x21).bind λy22=>iteP ((s.2.2.1++([y22.2.1]:List xB)).length*32<=2 ^ 40) (some (.inl ((s.1.1,(),(),(),(IntKind.wrap .i64 (s.1.2.2.2.2.1+1)),()),(s.2.1.1,(y22.1.now,(),(),(),y22.1.master.activated,y22.1.masterUp,y22.1.lease.epoch,y22.1.lease.holder,y22.1.lease.ends,(),()),()),(s.2.2.1++([y22.2.1]:List xB)),y22.1.servers,y22.1.sides,y22.1.master.configs,y22.1.places,()))) none) none) (some (.inr (((),(),(),()),s.2)))) (some (.inr (((),(),(),()),s.2)))
def Tl:=md K9
def TC[dL] :=HP Tryz.f216 [0] Pv K9 [VT] [] (by kernel_rfl) λs=>by simp only[K9,tm];kernel_rfl
def Lk(a0:qN)(a1:List xx):Option (qN×(List xB)×Unit):=
 (FE a0).bind λy1=>(Tl ((a1,(),(),(),0,()),((0,(),(),(),0,0,0,0,0,(),()),(y1.1.now,(),(),(),y1.1.master.activated,y1.1.masterUp,y1.1.lease.epoch,y1.1.lease.holder,y1.1.lease.ends,(),()),()),([]:List xB),y1.1.servers,y1.1.sides,y1.1.master.configs,y1.1.places,())).bind λe23=>some ((⟨e23.2.1.2.1.1,e23.2.2.2.1,e23.2.2.2.2.1,(⟨e23.2.2.2.2.2.1,e23.2.1.2.1.2.2.2.2.1⟩:kB),e23.2.1.2.1.2.2.2.2.2.1,(⟨e23.2.1.2.1.2.2.2.2.2.2.1,e23.2.1.2.1.2.2.2.2.2.2.2.1,e23.2.1.2.1.2.2.2.2.2.2.2.2.1⟩:vz),e23.2.2.2.2.2.2.1⟩:qN),e23.2.2.1,())
def U3[dL] :=FH 216 Tryz.f216 [.ty (.st .cluster),.ty (.ls (.st .event))] [.st .cluster,.ls (.st .reply)] (λx=>Lk x.1 x.2.1) [F4] [TC] (by kernel_rfl) λx=>by simp only[Lk,tm];kernel_rfl
def Ks[dL](a0:List qO):Option ((List qO)×qN×Unit):=
 (KQ a0).bind λy1=>iteP (y1.1.length=a0.length) ((Kl y1.2.1).bind λy2=>(Ls y1.1 14).bind λy3=>iteP (y3.1.length=y1.1.length) ((Lk y2.1 y3.2.1).bind λy4=>some (y3.1,y4.1,())) none) none
def Ut[dL] :=RL 185 Tryz.f185 (.st .cur) [] Xb (λl _=>Ks l) [Sd,Um,Va,U3] [] (by kernel_rfl) λl x=>by simp only[Ks,tm,-eq_self];kernel_rfl
abbrev Qn:LX:=⟨⟨[Su,WC,MH],[],Y5,1,17⟩,[(.ext 0,⟨[WC],[],Y5,1,17⟩)],[],[0,3,4],[3]⟩
def Ka[dL](s:V8×Unit×List qO×List Int×Unit):Qn.R:=
 br (decide (s.1.2.2.1<5)) ((Fq s.2.2.1 ([0,0,0,1,2]:List Int)).bind λy4=>iteP (y4.1.length=s.2.2.1.length) (iteP ((s.2.2.2.1++([y4.2.1]:List Int)).length*8<=2 ^ 40) (some (.inl (((),(),(IntKind.wrap .i64 (s.1.2.2.1+1)),()),(()),y4.1,(s.2.2.2.1++([y4.2.1]:List Int)),()))) none) none) (some (.inr (((),()),(()),s.2.2)))
def Qd[dL] :=md Ka
def UI[dL] :=HP Tryz.f220 [0] Qn Ka [Gi] [] (by kernel_rfl) λs=>by simp only[Ka,tm,-eq_self];kernel_rfl
def Me[dL](a0:List qO):Option ((List qO)×(List Int)×Unit):=
 (Qd (((),(),0,()),(()),a0,([]:List Int),())).bind λe5=>some e5.2.2
def VU[dL] :=RL 220 Tryz.f220 (.st .cur) [] KG (λl _=>Me l) [] [UI] (by kernel_rfl) λl x=>by simp only[Me,tm];kernel_rfl
def Oo[dL](a0:List qO):Option ((List qO)×(List Int)×Unit):=
 (Me a0).bind λy1=>iteP (y1.1.length=a0.length) ((Fj y1.1 12).bind λy2=>iteP (y2.1.length=y1.1.length) (br (y2.2.1==0) (iteP (0<=(1:Int)/\(1:Int)<=(y1.2.1.length:Int)/\(y1.2.1.length:Int)<=((y1.2.1.length:Nat):Int)) (iteP ((0+(1:Int).toNat)=0/\((y1.2.1.length:Int).toNat-(1:Int).toNat)<=y1.2.1.length) (some (y2.1,(y1.2.1.take ((y1.2.1.length:Int).toNat-(1:Int).toNat)),())) (iteP ((0+(1:Int).toNat)+((y1.2.1.length:Int).toNat-(1:Int).toNat)<=y1.2.1.length) (some (y2.1,((y1.2.1.drop (0+(1:Int).toNat)).take ((y1.2.1.length:Int).toNat-(1:Int).toNat)),())) none)) none) (br (y2.2.1==1) ((Fq y2.1 ([(-1),3,4]:List Int)).bind λy3=>iteP (y3.1.length=y2.1.length) (iteP (0<=(1:Int)/\(1:Int)< (y1.2.1.length:Int)) ((y1.2.1[(1:Int).toNat]?).bind λ_=>some (y3.1,(y1.2.1.set ((1:Int).toNat) y3.2.1),())) none) none) (some (y2.1,y1.2.1,())))) none) none
def XP[dL] :=RL 186 Tryz.f186 (.st .cur) [] KG (λl _=>Oo l) [VU,F5,Gi] [] (by kernel_rfl) λl x=>by simp only[Oo,tm,-eq_self];kernel_rfl
abbrev SD:LX:=⟨⟨[Su,WC,MH],[],Y5,1,17⟩,[(.ext 0,⟨[WC],[],Y5,1,17⟩)],[],[0,3,4],[3]⟩
def NM[dL](s:V8×Unit×List qO×List Int×Unit):SD.R:=
 br (decide (s.1.2.2.1<5)) ((Gg s.2.2.1 2).bind λy4=>iteP (y4.1.length=s.2.2.1.length) (br y4.2.1 (iteP ((s.2.2.2.1++([s.1.2.2.1]:List Int)).length*8<=2 ^ 40) (some (.inl (((),(),(IntKind.wrap .i64 (s.1.2.2.1+1)),()),(()),y4.1,(s.2.2.2.1++([s.1.2.2.1]:List Int)),()))) none) (some (.inl (((),(),(IntKind.wrap .i64 (s.1.2.2.1+1)),()),(()),y4.1,s.2.2.2)))) none) (some (.inr (((),()),(()),s.2.2)))
def V4[dL] :=md NM
def Wi[dL] :=HP Tryz.f253 [0] SD NM [Ix] [] (by kernel_rfl) λs=>by simp only[NM,tm,-eq_self];kernel_rfl
def Lr[dL](a0:List qO):Option ((List qO)×(List Int)×Unit):=
 (V4 (((),(),0,()),(()),a0,([]:List Int),())).bind λe6=>some e6.2.2
def U9[dL] :=RL 253 Tryz.f253 (.st .cur) [] KG (λl _=>Lr l) [] [Wi] (by kernel_rfl) λl x=>by simp only[Lr,tm];kernel_rfl
def JM[dL](a0:List qO)(a1:Int):Option ((List qO)×om×Unit):=
 (Fj a0 5).bind λy1=>iteP (y1.1.length=a0.length) ((Lr y1.1).bind λy2=>iteP (y2.1.length=y1.1.length) ((HQ y2.2.1 y1.2.1).bind λy3=>let j9 (p4:List Int):Option ((List qO)×om×Unit):=(Gg y2.1 2).bind λy5=>iteP (y5.1.length=y2.1.length) (br y5.2.1 ((Lr y5.1).bind λy6=>iteP (y6.1.length=y5.1.length) ((F3 y6.2.1 p4).bind λy7=>br (decide ((y7.1.length:Int)>0)) (iteP (0<=(0:Int)/\(0:Int)<=(1:Int)/\(1:Int)<=((y7.1.length:Nat):Int)) (iteP ((0+(0:Int).toNat)=0/\((1:Int).toNat-(0:Int).toNat)<=y7.1.length) (some (y6.1,(⟨a1,y1.2.1,p4,(y7.1.take ((1:Int).toNat-(0:Int).toNat))⟩:om),())) (iteP ((0+(0:Int).toNat)+((1:Int).toNat-(0:Int).toNat)<=y7.1.length) (some (y6.1,(⟨a1,y1.2.1,p4,((y7.1.drop (0+(0:Int).toNat)).take ((1:Int).toNat-(0:Int).toNat))⟩:om),())) none)) none) (some (y6.1,(⟨a1,y1.2.1,p4,([]:List Int)⟩:om),()))) none) (some (y5.1,(⟨a1,y1.2.1,p4,([]:List Int)⟩:om),()))) none;br (decide ((y3.1.length:Int)>3)) (j9 ([y1.2.1]:List Int)) (j9 y3.1)) none) none
def PF[dL] :=RL 238 Tryz.f238 (.st .cur) Uz YZ (λl x=>JM l x.1) [F5,U9,NQ,Ix,KS] [] (by kernel_rfl) λl x=>by simp only[JM,tm,-eq_self];kernel_rfl
abbrev SB:LX:=⟨⟨[Su,MZ,Ra,MH],[Xd,ZP],[.st .cur,.st .config],1,34⟩,[(.ext 0,⟨[MZ,Ra],[Xd,ZP],[.st .cur,.st .config],1,34⟩)],[.b 1 0 (.st .config)],[0,2,3,4],[2,3]⟩
def NK[dL](s:YX×(Sz×Sz×Unit)×List qO×List om×Unit):SB.R:=
 br (decide (s.1.2.2.2.1>0)) ((JM s.2.2.1 (IntKind.wrap .i64 ((s.2.2.2.1.length:Int)+1))).bind λy17=>iteP (y17.1.length=s.2.2.1.length) ((Hx (⟨s.2.2.2.1,s.2.1.2.1.2.1⟩:kB) y17.2.1).bind λy18=>(Gg y17.1 2).bind λy19=>iteP (y19.1.length=y17.1.length) (br y19.2.1 ((Hc y18.1 (y18.1.configs.length:Int)).bind λy20=>some (.inl (((),(),(),(IntKind.wrap .i64 (s.1.2.2.2.1-1)),()),(s.2.1.1,((),y20.1.activated,()),()),y19.1,y20.1.configs,()))) (some (.inl (((),(),(),(IntKind.wrap .i64 (s.1.2.2.2.1-1)),()),(s.2.1.1,((),y18.1.activated,()),()),y19.1,y18.1.configs,())))) none) none) (some (.inr (((),(),()),s.2)))
def V2[dL] :=md NK
def Wg[dL] :=HP Tryz.f221 [0] SB NK [PF,NZ,Ix,Nj] [] (by kernel_rfl) λs=>by simp only[NK,tm,-eq_self];kernel_rfl
def Oj[dL](a0:List qO):Option ((List qO)×kB×Unit):=
 (Fj a0 5).bind λy1=>iteP (y1.1.length=a0.length) ((V2 (((),(),(),y1.2.1,()),(((),0,()),((),0,()),()),y1.1,([]:List om),())).bind λe23=>some (e23.2.2.1,(⟨e23.2.2.2.1,e23.2.1.2.1.2.1⟩:kB),())) none
def XL[dL] :=RL 221 Tryz.f221 (.st .cur) [] Y0 (λl _=>Oj l) [F5] [Wg] (by kernel_rfl) λl x=>by simp only[Oj,tm,-eq_self];kernel_rfl
def O1[dL](a0:List qO):Option ((List qO)×(List Int)×Unit):=
 (Lr a0).bind λy1=>iteP (y1.1.length=a0.length) ((Gg y1.1 8).bind λy2=>iteP (y2.1.length=y1.1.length) (br y2.2.1 ((Fq y2.1 ([(-1),0,4,5]:List Int)).bind λy3=>iteP (y3.1.length=y2.1.length) (iteP ((y1.2.1++([y3.2.1]:List Int)).length*8<=2 ^ 40) (some (y3.1,(y1.2.1++([y3.2.1]:List Int)),())) none) none) (some (y2.1,y1.2.1,()))) none) none
def YQ[dL] :=RL 239 Tryz.f239 (.st .cur) [] KG (λl _=>O1 l) [U9,Ix,Gi] [] (by kernel_rfl) λl x=>by simp only[O1,tm,-eq_self];kernel_rfl
def O3[dL](a0:List qO):Option ((List qO)×om×Unit):=
 (Fj a0 4).bind λy1=>iteP (y1.1.length=a0.length) ((JM y1.1 (IntKind.wrap .i64 (1+y1.2.1))).bind λy2=>iteP (y2.1.length=y1.1.length) ((Fj y2.1 14).bind λy3=>iteP (y3.1.length=y2.1.length) (br (y3.2.1==0) ((Fq y3.1 ([0,20,21]:List Int)).bind λy4=>iteP (y4.1.length=y3.1.length) (some (y4.1,(⟨y4.2.1,y2.2.1.primary,y2.2.1.replicas,y2.2.1.witnesses⟩:om),())) none) (br (y3.2.1==1) ((Fj y3.1 7).bind λy5=>iteP (y5.1.length=y3.1.length) (some (y5.1,(⟨y2.2.1.epoch,(IntKind.wrap .i64 (y5.2.1-1)),y2.2.1.replicas,y2.2.1.witnesses⟩:om),())) none) (br (y3.2.1==2) ((O1 y3.1).bind λy6=>iteP (y6.1.length=y3.1.length) (some (y6.1,(⟨y2.2.1.epoch,y2.2.1.primary,y6.2.1,y2.2.1.witnesses⟩:om),())) none) (br (y3.2.1==3) ((O1 y3.1).bind λy7=>iteP (y7.1.length=y3.1.length) (some (y7.1,(⟨y2.2.1.epoch,y2.2.1.primary,y2.2.1.replicas,y7.2.1⟩:om),())) none) (some (y3.1,y2.2.1,())))))) none) none) none
def Wu[dL] :=RL 222 Tryz.f222 (.st .cur) [] YZ (λl _=>O3 l) [F5,PF,Gi,YQ] [] (by kernel_rfl) λl x=>by simp only[O3,tm,-eq_self];kernel_rfl
def Oi[dL](a0:List qO):Option ((List qO)×kB×Unit):=
 (Oj a0).bind λy1=>iteP (y1.1.length=a0.length) ((Fj y1.1 14).bind λy2=>iteP (y2.1.length=y1.1.length) (br (y2.2.1==0) ((Fq y2.1 ([(-1),0,3,6]:List Int)).bind λy3=>iteP (y3.1.length=y2.1.length) (some (y3.1,(⟨y1.2.1.configs,y3.2.1⟩:kB),())) none) (br (y2.2.1==1) ((O3 y2.1).bind λy4=>iteP (y4.1.length=y2.1.length) (iteP ((y1.2.1.configs++([y4.2.1]:List om)).length*64<=2 ^ 40) (some (y4.1,(⟨(y1.2.1.configs++([y4.2.1]:List om)),y1.2.1.activated⟩:kB),())) none) none) (some (y2.1,y1.2.1,())))) none) none
def XK[dL] :=RL 187 Tryz.f187 (.st .cur) [] Y0 (λl _=>Oi l) [XL,F5,Gi,Wu] [] (by kernel_rfl) λl x=>by simp only[Oi,tm,-eq_self];kernel_rfl
def Ok[dL](a0:List qO):Option ((List qO)×vz×Unit):=
 (Gg a0 4).bind λy1=>iteP (y1.1.length=a0.length) (let j17 (p5:List qO) (p6:Int) (p7:Int) (p8:Int):Option ((List qO)×vz×Unit):=(Fj p5 14).bind λy9=>iteP (y9.1.length=p5.length) (br (y9.2.1==0) ((Fq y9.1 ([0,20,21]:List Int)).bind λy10=>iteP (y10.1.length=y9.1.length) (some (y10.1,(⟨y10.2.1,p7,p8⟩:vz),())) none) (br (y9.2.1==1) ((Fq y9.1 ([(-1),4,5]:List Int)).bind λy11=>iteP (y11.1.length=y9.1.length) (some (y11.1,(⟨p6,y11.2.1,p8⟩:vz),())) none) (br (y9.2.1==2) ((Fq y9.1 ([(-1),0,1049,1050]:List Int)).bind λy12=>iteP (y12.1.length=y9.1.length) (some (y12.1,(⟨p6,p7,y12.2.1⟩:vz),())) none) (some (y9.1,(⟨p6,p7,p8⟩:vz),()))))) none;br (!y1.2.1) ((Fj y1.1 3).bind λy2=>iteP (y2.1.length=y1.1.length) ((Fj y2.1 3).bind λy3=>iteP (y3.1.length=y2.1.length) ((Fj y3.1 20).bind λy4=>iteP (y4.1.length=y3.1.length) (j17 y4.1 (IntKind.wrap .i64 (1+y2.2.1)) y3.2.1 (IntKind.wrap .i64 (1+y4.2.1))) none) none) none) (j17 y1.1 0 0 0)) none
def XM[dL] :=RL 188 Tryz.f188 (.st .cur) [] [.st .lease] (λl _=>Ok l) [Ix,F5,Gi] [] (by kernel_rfl) λl x=>by simp only[Ok,tm,-eq_self];kernel_rfl
def P1[dL](a0:List qO):Option ((List qO)×(List vB)×Unit):=
 (KQ a0).bind λy1=>iteP (y1.1.length=a0.length) ((Fj y1.1 14).bind λy2=>iteP (y2.1.length=y1.1.length) (br (y2.2.1==0) (iteP (0<=(1:Int)/\(1:Int)<=(y1.2.1.length:Int)/\(y1.2.1.length:Int)<=((y1.2.1.length:Nat):Int)) (iteP ((0+(1:Int).toNat)=0/\((y1.2.1.length:Int).toNat-(1:Int).toNat)<=y1.2.1.length) (some (y2.1,(y1.2.1.take ((y1.2.1.length:Int).toNat-(1:Int).toNat)),())) (iteP ((0+(1:Int).toNat)+((y1.2.1.length:Int).toNat-(1:Int).toNat)<=y1.2.1.length) (some (y2.1,((y1.2.1.drop (0+(1:Int).toNat)).take ((y1.2.1.length:Int).toNat-(1:Int).toNat)),())) none)) none) (br (y2.2.1==1) ((Fq y2.1 ([(-1),9,10]:List Int)).bind λy3=>iteP (y3.1.length=y2.1.length) (iteP (0<=(0:Int)/\(0:Int)< (y1.2.1.length:Int)) ((y1.2.1[(0:Int).toNat]?).bind λx4=>some (y3.1,(y1.2.1.set ((0:Int).toNat) (⟨y3.2.1,x4.capacity,x4.load⟩:vB)),())) none) none) (br (y2.2.1==2) ((Fq y2.1 ([(-1),99,100]:List Int)).bind λy6=>iteP (y6.1.length=y2.1.length) (iteP (0<=(1:Int)/\(1:Int)< (y1.2.1.length:Int)) ((y1.2.1[(1:Int).toNat]?).bind λx7=>some (y6.1,(y1.2.1.set ((1:Int).toNat) (⟨x7.rack,x7.capacity,y6.2.1⟩:vB)),())) none) none) (some (y2.1,y1.2.1,()))))) none) none
def YT[dL] :=RL 189 Tryz.f189 (.st .cur) [] [.ls (.st .place)] (λl _=>P1 l) [Sd,F5,Gi] [] (by kernel_rfl) λl x=>by simp only[P1,tm,-eq_self];kernel_rfl
abbrev TR:LX:=⟨⟨[Su,WD,MH,Ms],[],Y6,1,27⟩,[(.ext 0,⟨[WD],[],Y6,1,27⟩)],[],[0,3,4,5],[3]⟩
def M8[dL](s: (Unit×Unit×Int×Int×Unit)×Unit×List qO×List sf×Unit):TR.R:=
 br (decide (s.1.2.2.2.1>0)) ((Gg s.2.2.1 3).bind λy6=>iteP (y6.1.length=s.2.2.1.length) (br y6.2.1 ((MT y6.1).bind λy9=>iteP (y9.1.length=y6.1.length) (iteP ((s.2.2.2.1++([(⟨(IntKind.wrap .i64 (s.1.2.2.1+1)),y9.2.1⟩:sf)]:List sf)).length*56<=2 ^ 40) (some (.inl (((),(),(IntKind.wrap .i64 (s.1.2.2.1+1)),(IntKind.wrap .i64 (s.1.2.2.2.1-1)),()),(()),y9.1,(s.2.2.2.1++([(⟨(IntKind.wrap .i64 (s.1.2.2.1+1)),y9.2.1⟩:sf)]:List sf)),()))) none) none) ((MT y6.1).bind λy10=>iteP (y10.1.length=y6.1.length) (iteP ((s.2.2.2.1++([(⟨s.1.2.2.1,y10.2.1⟩:sf)]:List sf)).length*56<=2 ^ 40) (some (.inl (((),(),s.1.2.2.1,(IntKind.wrap .i64 (s.1.2.2.2.1-1)),()),(()),y10.1,(s.2.2.2.1++([(⟨s.1.2.2.1,y10.2.1⟩:sf)]:List sf)),()))) none) none)) none) (some (.inr (((),()),(()),s.2.2)))
def TJ[dL] :=md M8
def Xj[dL] :=HP Tryz.f168 [0] TR M8 [Ix,Uu] [] (by kernel_rfl) λs=>by simp only[M8,tm,-eq_self];kernel_rfl
def O2[dL](a0:List qO):Option ((List qO)×(List sf)×Unit):=
 (Fj a0 7).bind λy1=>iteP (y1.1.length=a0.length) ((TJ (((),(),1,y1.2.1,()),(()),y1.1,([]:List sf),())).bind λe14=>some e14.2.2) none
def Wt[dL] :=RL 168 Tryz.f168 (.st .cur) [] Xc (λl _=>O2 l) [F5] [Xj] (by kernel_rfl) λl x=>by simp only[O2,tm,-eq_self];kernel_rfl
abbrev SC:LX:=⟨⟨[Pb,KY,Ms],[],[],0,25⟩,[(.ext 0,⟨[Pb,Ms],[],[],0,25⟩)],[],[0,1,5],[0,5]⟩
def NL(s: (List sf×Int×Int×Unit)×Unit×Unit):SC.R:=
 br (decide (s.1.2.2.1< (s.1.1.length:Int))) (iteP (0<=s.1.2.2.1) ((s.1.1[s.1.2.2.1.toNat]?).bind λx4=>br (decide (x4.epoch<=s.1.2.1)) (some (.inl ((s.1.1,s.1.2.1,(IntKind.wrap .i64 (s.1.2.2.1+1)),()),(()),(())))) (some (.inr ((s.1.1,s.1.2.2),(()),(()))))) none) (some (.inr ((s.1.1,s.1.2.2),(()),(()))))
def V3:=md NL
def Wh[dL] :=HP Tryz.f240 [0] SC NL [] [] (by kernel_rfl) λs=>by simp only[NL,tm];kernel_rfl
def Om(a0:List sf)(a1:Int):Option ((List sf)×Unit):=
 (V3 ((a0,a1,0,()),(()),(()))).bind λe5=>iteP (0<=(0:Int)/\(0:Int)<=e5.1.2.1/\e5.1.2.1<=(e5.1.1.length:Int)) ((GP ((e5.1.1.drop (0:Int).toNat).take (e5.1.2.1.toNat-(0:Int).toNat))).bind λy6=>some (y6.1,())) none
def XO[dL] :=FH 240 Tryz.f240 X1 Xc (λx=>Om x.1 x.2.1) [Ju] [Wh] (by kernel_rfl) λx=>by simp only[Om,tm];kernel_rfl
def Lp[dL](a0:List qO):Option ((List qO)×qQ×Int×Unit):=
 (Fj a0 2).bind λy1=>iteP (y1.1.length=a0.length) ((JX (IntKind.wrap .i64 (1+y1.2.1))).bind λy2=>(Fj y1.1 3).bind λy3=>iteP (y3.1.length=y1.1.length) ((JM y3.1 (IntKind.wrap .i64 (1+y3.2.1))).bind λy4=>iteP (y4.1.length=y3.1.length) ((FX y4.2.1).bind λy5=>(Fj y4.1 (y5.1.length:Int)).bind λy6=>iteP (y6.1.length=y4.1.length) (iteP (0<=y6.2.1/\y6.2.1< (y5.1.length:Int)) ((y5.1[y6.2.1.toNat]?).bind λx7=>(Gg y6.1 5).bind λy8=>iteP (y8.1.length=y6.1.length) (br (!y8.2.1) ((O2 y8.1).bind λy9=>iteP (y9.1.length=y8.1.length) ((Om y9.2.1 y4.2.1.epoch).bind λy10=>(Hw y2.1 y4.2.1 x7 y10.1).bind λy11=>(Gg y9.1 4).bind λy44=>iteP (y44.1.length=y9.1.length) (let j62 (p45:Bool):Option ((List qO)×qQ×Int×Unit):=(Gg y44.1 4).bind λy46=>iteP (y46.1.length=y44.1.length) (br y46.2.1 ((Fj y46.1 3).bind λy47=>iteP (y47.1.length=y46.1.length) ((HE (⟨p45,y11.1.intact,y11.1.version,y11.1.epoch,y11.1.config,y11.1.first,y11.1.log,y11.1.commit,y11.1.learned⟩:qQ) (IntKind.wrap .i64 (4+y47.2.1))).bind λy48=>some (y47.1,y48.1,x7,())) none) (some (y46.1,(⟨p45,y11.1.intact,y11.1.version,y11.1.epoch,y11.1.config,y11.1.first,y11.1.log,y11.1.commit,y11.1.learned⟩:qQ),x7,()))) none;br y44.2.1 (j62 false) (j62 y11.1.up)) none) none) ((Gg y8.1 4).bind λy63=>iteP (y63.1.length=y8.1.length) (let j81 (p64:Bool):Option ((List qO)×qQ×Int×Unit):=(Gg y63.1 4).bind λy65=>iteP (y65.1.length=y63.1.length) (br y65.2.1 ((Fj y65.1 3).bind λy66=>iteP (y66.1.length=y65.1.length) ((HE (⟨p64,y2.1.intact,y2.1.version,y2.1.epoch,y2.1.config,y2.1.first,y2.1.log,y2.1.commit,y2.1.learned⟩:qQ) (IntKind.wrap .i64 (4+y66.2.1))).bind λy67=>some (y66.1,y67.1,x7,())) none) (some (y65.1,(⟨p64,y2.1.intact,y2.1.version,y2.1.epoch,y2.1.config,y2.1.first,y2.1.log,y2.1.commit,y2.1.learned⟩:qQ),x7,()))) none;br y63.2.1 (j81 false) (j81 y2.1.up)) none)) none) none) none) none) none) none
def U7[dL] :=RL 223 Tryz.f223 (.st .cur) [] [.st .server,.i .i64] (λl _=>Lp l) [F5,Q3,PF,I3,Ix,Wt,XO,NX,P9] [] (by kernel_rfl) λl x=>by simp only[Lp,tm,-eq_self];kernel_rfl
def PZ[dL](a0:List qO):Option ((List qO)×Op×Unit):=
 (MT a0).bind λy1=>iteP (y1.1.length=a0.length) ((Fj y1.1 14).bind λy2=>iteP (y2.1.length=y1.1.length) (br (y2.2.1==0) ((Fq y2.1 ([(-1),2,3]:List Int)).bind λy3=>iteP (y3.1.length=y2.1.length) (some (y3.1,(⟨y3.2.1,y1.2.1.seq,y1.2.1.kind,y1.2.1.object,y1.2.1.old,y1.2.1.value⟩:Op),())) none) (br (y2.2.1==1) ((Fq y2.1 ([0,99,100]:List Int)).bind λy4=>iteP (y4.1.length=y2.1.length) (some (y4.1,(⟨y1.2.1.client,y4.2.1,y1.2.1.kind,y1.2.1.object,y1.2.1.old,y1.2.1.value⟩:Op),())) none) (br (y2.2.1==2) ((Fj y2.1 4).bind λy5=>iteP (y5.1.length=y2.1.length) (some (y5.1,(⟨y1.2.1.client,y1.2.1.seq,y5.2.1,y1.2.1.object,y1.2.1.old,y1.2.1.value⟩:Op),())) none) (br (y2.2.1==3) ((Fq y2.1 ([(-1),3]:List Int)).bind λy6=>iteP (y6.1.length=y2.1.length) (some (y6.1,(⟨y1.2.1.client,y1.2.1.seq,y1.2.1.kind,y6.2.1,y1.2.1.old,y1.2.1.value⟩:Op),())) none) (br (y2.2.1==4) ((Fq y2.1 ([(-1),9,10]:List Int)).bind λy7=>iteP (y7.1.length=y2.1.length) (some (y7.1,(⟨y1.2.1.client,y1.2.1.seq,y1.2.1.kind,y1.2.1.object,y1.2.1.old,y7.2.1⟩:Op),())) none) (br (y2.2.1==5) ((Fq y2.1 ([(-1),0,9,10]:List Int)).bind λy8=>iteP (y8.1.length=y2.1.length) (some (y8.1,(⟨y1.2.1.client,y1.2.1.seq,y1.2.1.kind,y1.2.1.object,y8.2.1,y1.2.1.value⟩:Op),())) none) (some (y2.1,y1.2.1,())))))))) none) none
def YR[dL] :=RL 85 Tryz.f85 (.st .cur) [] [.st .op] (λl _=>PZ l) [Uu,F5,Gi] [] (by kernel_rfl) λl x=>by simp only[PZ,tm,-eq_self];kernel_rfl
abbrev TQ:LX:=⟨⟨[Su,WD],[],Y6,1,33⟩,[(.ext 1,⟨[WD],[],Y6,1,33⟩)],[],[0,3],[3]⟩
def L3[dL](s:Yb×Unit×List qO×List sf×Unit):TQ.R:=
 br (decide ((s.2.2.2.1.length:Int)<17)) ((MT s.2.2.1).bind λy7=>iteP (y7.1.length=s.2.2.1.length) (iteP ((s.2.2.2.1++([(⟨20,y7.2.1⟩:sf)]:List sf)).length*56<=2 ^ 40) (some (.inl (((),(),()),(()),y7.1,(s.2.2.2.1++([(⟨20,y7.2.1⟩:sf)]:List sf)),()))) none) none) (some (.inr (((),()),(()),s.2.2)))
def TH[dL] :=md L3
def Xi[dL] :=HP Tryz.f83 [0] TQ L3 [Uu] [] (by kernel_rfl) λs=>by simp only[L3,tm,-eq_self];kernel_rfl
def P0[dL](a0:List qO):Option ((List qO)×(List sf)×Unit):=
 (O2 a0).bind λy1=>iteP (y1.1.length=a0.length) ((Fj y1.1 14).bind λy2=>iteP (y2.1.length=y1.1.length) (br (y2.2.1==0) ((Fq y2.1 ([0,1,20,21]:List Int)).bind λy3=>iteP (y3.1.length=y2.1.length) ((PZ y3.1).bind λy4=>iteP (y4.1.length=y3.1.length) (iteP ((y1.2.1++([(⟨y3.2.1,y4.2.1⟩:sf)]:List sf)).length*56<=2 ^ 40) (some (y4.1,(y1.2.1++([(⟨y3.2.1,y4.2.1⟩:sf)]:List sf)),())) none) none) none) (br (y2.2.1==1) ((TH (((),(),()),(()),y2.1,y1.2.1,())).bind λe8=>some e8.2.2) (some (y2.1,y1.2.1,())))) none) none
def YS[dL] :=RL 83 Tryz.f83 (.st .cur) [] Xc (λl _=>P0 l) [Wt,F5,Gi,YR] [Xi] (by kernel_rfl) λl x=>by simp only[P0,tm,-eq_self];kernel_rfl
def Ol[dL](a0:List qO):Option ((List qO)×qQ×Int×Unit):=
 (Lp a0).bind λy1=>iteP (y1.1.length=a0.length) ((Fj y1.1 16).bind λy2=>iteP (y2.1.length=y1.1.length) (let j21 (p10:List qO) (p11:Int) (p12:Int) (p13:Int) (p14:Int) (p15:List Int) (p16:List Int) (p17:Int) (p18:List sf) (p19:Int) (p20:Int):Option ((List qO)×qQ×Int×Unit):=some (p10,(⟨y1.2.1.up,y1.2.1.intact,p11,p12,(⟨p13,p14,p15,p16⟩:om),p17,p18,p19,y1.2.1.learned⟩:qQ),p20,());br (y2.2.1==0) ((Fq y2.1 ([0,1,3]:List Int)).bind λy3=>iteP (y3.1.length=y2.1.length) (j21 y3.1 y3.2.1 y1.2.1.epoch y1.2.1.config.epoch y1.2.1.config.primary y1.2.1.config.replicas y1.2.1.config.witnesses y1.2.1.first y1.2.1.log y1.2.1.commit y1.2.2.1) none) (br (y2.2.1==1) ((Fq y2.1 ([(-1),0,20,21]:List Int)).bind λy4=>iteP (y4.1.length=y2.1.length) (j21 y4.1 y1.2.1.version y4.2.1 y1.2.1.config.epoch y1.2.1.config.primary y1.2.1.config.replicas y1.2.1.config.witnesses y1.2.1.first y1.2.1.log y1.2.1.commit y1.2.2.1) none) (br (y2.2.1==2) ((O3 y2.1).bind λy5=>iteP (y5.1.length=y2.1.length) (j21 y5.1 y1.2.1.version y1.2.1.epoch y5.2.1.epoch y5.2.1.primary y5.2.1.replicas y5.2.1.witnesses y1.2.1.first y1.2.1.log y1.2.1.commit y1.2.2.1) none) (br (y2.2.1==3) ((Fq y2.1 ([(-1),0,2,17]:List Int)).bind λy6=>iteP (y6.1.length=y2.1.length) (j21 y6.1 y1.2.1.version y1.2.1.epoch y1.2.1.config.epoch y1.2.1.config.primary y1.2.1.config.replicas y1.2.1.config.witnesses y1.2.1.first y1.2.1.log y6.2.1 y1.2.2.1) none) (br (y2.2.1==4) ((Fq y2.1 ([(-1),0,2,9223372036854775807]:List Int)).bind λy7=>iteP (y7.1.length=y2.1.length) (j21 y7.1 y1.2.1.version y1.2.1.epoch y1.2.1.config.epoch y1.2.1.config.primary y1.2.1.config.replicas y1.2.1.config.witnesses y7.2.1 y1.2.1.log y1.2.1.commit y1.2.2.1) none) (br (y2.2.1==5) ((Fj y2.1 7).bind λy8=>iteP (y8.1.length=y2.1.length) (j21 y8.1 y1.2.1.version y1.2.1.epoch y1.2.1.config.epoch y1.2.1.config.primary y1.2.1.config.replicas y1.2.1.config.witnesses y1.2.1.first y1.2.1.log y1.2.1.commit (IntKind.wrap .i64 (y8.2.1-1))) none) (br (y2.2.1==6) ((P0 y2.1).bind λy9=>iteP (y9.1.length=y2.1.length) (j21 y9.1 y1.2.1.version y1.2.1.epoch y1.2.1.config.epoch y1.2.1.config.primary y1.2.1.config.replicas y1.2.1.config.witnesses y1.2.1.first y9.2.1 y1.2.1.commit y1.2.2.1) none) (j21 y2.1 y1.2.1.version y1.2.1.epoch y1.2.1.config.epoch y1.2.1.config.primary y1.2.1.config.replicas y1.2.1.config.witnesses y1.2.1.first y1.2.1.log y1.2.1.commit y1.2.2.1)))))))) none) none
def XN[dL] :=RL 190 Tryz.f190 (.st .cur) [] [.st .server,.i .i64] (λl _=>Ol l) [U7,F5,Gi,Wu,YS] [] (by kernel_rfl) λl x=>by simp only[Ol,tm,-eq_self];kernel_rfl
def Oq[dL](a0:List qO):Option ((List qO)×qN×Unit):=
 (Ks a0).bind λy1=>iteP (y1.1.length=a0.length) ((Fj y1.1 20).bind λy2=>iteP (y2.1.length=y1.1.length) (br (y2.2.1==0) ((Fq y2.1 ([(-1),998,999,1000]:List Int)).bind λy3=>iteP (y3.1.length=y2.1.length) (some (y3.1,(⟨y3.2.1,y1.2.1.servers,y1.2.1.sides,y1.2.1.master,y1.2.1.masterUp,y1.2.1.lease,y1.2.1.places⟩:qN),())) none) (br (y2.2.1==1) ((Oo y2.1).bind λy4=>iteP (y4.1.length=y2.1.length) (some (y4.1,(⟨y1.2.1.now,y1.2.1.servers,y4.2.1,y1.2.1.master,y1.2.1.masterUp,y1.2.1.lease,y1.2.1.places⟩:qN),())) none) (br (y2.2.1==2) ((Oi y2.1).bind λy5=>iteP (y5.1.length=y2.1.length) (some (y5.1,(⟨y1.2.1.now,y1.2.1.servers,y1.2.1.sides,y5.2.1,y1.2.1.masterUp,y1.2.1.lease,y1.2.1.places⟩:qN),())) none) (br (y2.2.1==3) ((Fq y2.1 ([(-1),3,4]:List Int)).bind λy6=>iteP (y6.1.length=y2.1.length) (some (y6.1,(⟨y1.2.1.now,y1.2.1.servers,y1.2.1.sides,y1.2.1.master,y6.2.1,y1.2.1.lease,y1.2.1.places⟩:qN),())) none) (br (y2.2.1==4) ((Ok y2.1).bind λy7=>iteP (y7.1.length=y2.1.length) (some (y7.1,(⟨y1.2.1.now,y1.2.1.servers,y1.2.1.sides,y1.2.1.master,y1.2.1.masterUp,y7.2.1,y1.2.1.places⟩:qN),())) none) (br (y2.2.1==5) ((P1 y2.1).bind λy8=>iteP (y8.1.length=y2.1.length) (some (y8.1,(⟨y1.2.1.now,y1.2.1.servers,y1.2.1.sides,y1.2.1.master,y1.2.1.masterUp,y1.2.1.lease,y8.2.1⟩:qN),())) none) (br (y2.2.1==6) ((Ol y2.1).bind λy9=>iteP (y9.1.length=y2.1.length) ((Fj y9.1 5).bind λy10=>iteP (y10.1.length=y9.1.length) (iteP (0<=y10.2.1/\y10.2.1< (y1.2.1.servers.length:Int)) ((y1.2.1.servers[y10.2.1.toNat]?).bind λ_=>some (y10.1,(⟨y1.2.1.now,(y1.2.1.servers.set y10.2.1.toNat y9.2.1),y1.2.1.sides,y1.2.1.master,y1.2.1.masterUp,y1.2.1.lease,y1.2.1.places⟩:qN),())) none) none) none) (some (y2.1,y1.2.1,()))))))))) none) none
def XQ[dL] :=RL 117 Tryz.f117 (.st .cur) [] Xb (λl _=>Oq l) [Ut,F5,Gi,XP,XK,XM,YT,XN] [] (by kernel_rfl) λl x=>by simp only[Oq,tm,-eq_self];kernel_rfl
abbrev NB:LX:=⟨⟨[J3,Rb,MH],[JP],Ia,0,29⟩,[(.ext 0,⟨[Rb],[],Ia,0,29⟩)],[],[1,3,4],[3]⟩
def Ja(s:V8×(M1×Unit)×List Int×Unit):NB.R:=
 br (decide (s.1.2.2.1< (s.2.1.1.2.1.length:Int))) ((Fi (⟨s.2.1.1.1,s.2.1.1.2.1,s.2.1.1.2.2.1,(⟨s.2.1.1.2.2.2.1,s.2.1.1.2.2.2.2.1⟩:kB),s.2.1.1.2.2.2.2.2.1,(⟨s.2.1.1.2.2.2.2.2.2.1,s.2.1.1.2.2.2.2.2.2.2.1,s.2.1.1.2.2.2.2.2.2.2.2.1⟩:vz),s.2.1.1.2.2.2.2.2.2.2.2.2.1⟩:qN)).bind λy13=>br y13.1 (iteP (0<=s.1.2.2.1) ((s.2.1.1.2.1[s.1.2.2.1.toNat]?).bind λx14=>(FG x14 s.1.2.2.1).bind λy15=>br y15.1 (iteP ((s.2.2.1++([s.1.2.2.1]:List Int)).length*8<=2 ^ 40) (some (.inl (((),(),(IntKind.wrap .i64 (s.1.2.2.1+1)),()),s.2.1,(s.2.2.1++([s.1.2.2.1]:List Int)),()))) none) (some (.inl (((),(),(IntKind.wrap .i64 (s.1.2.2.1+1)),()),s.2)))) none) (some (.inr (((),()),(()),s.2.2)))) (some (.inr (((),()),(()),s.2.2)))
def QE:=md Ja
def QQ[dL] :=HP Tryz.f176 [0] NB Ja [Fo,H9] [] (by kernel_rfl) λs=>by simp only[Ja,tm];kernel_rfl
def IY(a0:qN):Option ((List Int)×Unit):=
 (QE (((),(),0,()),((a0.now,a0.servers,a0.sides,a0.master.configs,a0.master.activated,a0.masterUp,a0.lease.epoch,a0.lease.holder,a0.lease.ends,a0.places,()),()),([]:List Int),())).bind λe17=>some e17.2.2
def R8[dL] :=FH 176 Tryz.f176 Tn KG (λx=>IY x.1) [] [QQ] (by kernel_rfl) λx=>by simp only[IY,tm];kernel_rfl
def L4[dL](a0:Hd):Option ((List qO)×qN×Int×Unit):=
 (TY a0).bind λy1=>(Oq y1.1).bind λy2=>iteP (y2.1.length=y1.1.length) ((IY y2.2.1).bind λy3=>(Fj y2.1 7).bind λy4=>iteP (y4.1.length=y2.1.length) (br (decide ((y3.1.length:Int)>0)) ((Gg y4.1 5).bind λy5=>iteP (y5.1.length=y4.1.length) (br (!y5.2.1) ((Fj y5.1 (y3.1.length:Int)).bind λy6=>iteP (y6.1.length=y5.1.length) (iteP (0<=y6.2.1/\y6.2.1< (y3.1.length:Int)) ((y3.1[y6.2.1.toNat]?).bind λx7=>some (y6.1,y2.2.1,x7,())) none) none) (some (y5.1,y2.2.1,(IntKind.wrap .i64 (y4.2.1-1)),()))) none) (some (y4.1,y2.2.1,(IntKind.wrap .i64 (y4.2.1-1)),()))) none) none
def TG[dL] :=coQ 104 Tryz.f104 (.st .cur) [.ty (.h)] Oc (λx=>L4 x.1) [YP,XQ,R8,F5,Ix] [] (by kernel_rfl) λx=>by simp only[L4,tm,-eq_self];kernel_rfl
def G0[dL](a0:Hd):Option (qN×Int×Unit):=
 (L4 a0).bind λy1=>some (y1.2.1,y1.2.2.1,())
def O9[dL] :=FH 44 Tryz.f44 [.ty (.h)] Oc (λx=>G0 x.1) [TG] [] (by kernel_rfl) λx=>by simp only[G0,tm];kernel_rfl
def Gu(a0:om):Option (om×Unit):=
 iteP ((([]:List Int)++a0.replicas).length*8<=2 ^ 40) (iteP ((([]:List Int)++a0.witnesses).length*8<=2 ^ 40) (some ((⟨a0.epoch,a0.primary,(([]:List Int)++a0.replicas),(([]:List Int)++a0.witnesses)⟩:om),())) none) none
def NN[dL] :=FH 139 Tryz.f139 V6 YZ (λx=>Gu x.1) [] [] (by kernel_rfl) λx=>by simp only[Gu,tm];kernel_rfl
def H7(a0:List sf):Option ((List sf)×Unit):=iteP (a0.length*56<=2 ^ 40) (some (a0,())) none
def OD[dL] :=coC 93 Tryz.f93 (.st .entry) 56 H7 (by kernel_rfl) (λ_=>rfl) λ_=>by kernel_rfl
def Je(a0:qQ):Option (qQ×Unit):=
 (Gu a0.config).bind λy1=>(H7 a0.log).bind λy2=>(H7 a0.learned).bind λy3=>some ((⟨a0.up,a0.intact,a0.version,a0.epoch,y1.1,a0.first,y2.1,a0.commit,y3.1⟩:qQ),())
def P4[dL] :=FH 125 Tryz.f125 Vc YY (λx=>Je x.1) [NN,OD] [] (by kernel_rfl) λx=>by simp only[Je,tm];kernel_rfl
def Ip(a0:List Int):Option ((List Int)×Unit):=iteP (a0.length*8<=2 ^ 40) (some (a0,())) none
def Qa[dL] :=coC 131 Tryz.f131 (.i .i64) 8 Ip (by kernel_rfl) (λ_=>rfl) λ_=>by kernel_rfl
abbrev OL:LX:=⟨⟨[MZ,Ra,(10,.cl (.ro (.st .config))),TL,Po],[Xd,WE],Y2,0,25⟩,[(.ext 0,⟨[MZ,Ra],[Xd,WE],Y2,0,25⟩)],[.b 2 0 (.st .config)],[2,3,10,11,12],[2,3]⟩
def HT(s: (Unit×Unit×List om×Int×Int×Unit)×(Sz×Sz×Unit)×List om×Unit):OL.R:=
 br (decide (s.1.2.2.2.2.1<s.1.2.2.2.1)) (iteP (0<=s.1.2.2.2.2.1) ((s.1.2.2.1[s.1.2.2.2.2.1.toNat]?).bind λx14=>(Gu x14).bind λy15=>iteP ((s.2.2.1++([y15.1]:List om)).length*64<=2 ^ 40) (some (.inl (((),(),s.1.2.2.1,s.1.2.2.2.1,(IntKind.wrap .i64 (s.1.2.2.2.2.1+1)),()),s.2.1,(s.2.2.1++([y15.1]:List om)),()))) none) none) (some (.inr (((),(),()),s.2)))
def OE:=md HT
def SG[dL] :=HP Tryz.f132 [0] OL HT [NN] [] (by kernel_rfl) λs=>by simp only[HT,tm];kernel_rfl
def Ke(a0:kB):Option (kB×Unit):=
 (OE (((),(),a0.configs,(a0.configs.length:Int),0,()),(((),0,()),((),a0.activated,()),()),([]:List om),())).bind λe16=>some ((⟨e16.2.2.1,e16.2.1.2.1.2.1⟩:kB),())
def Ue[dL] :=FH 132 Tryz.f132 Xa Y0 (λx=>Ke x.1) [] [SG] (by kernel_rfl) λx=>by simp only[Ke,tm];kernel_rfl
def Kt(a0:List vB):Option ((List vB)×Unit):=iteP (a0.length*24<=2 ^ 40) (some (a0,())) none
def Se[dL] :=coC 133 Tryz.f133 (.st .place) 24 Kt (by kernel_rfl) (λ_=>rfl) λ_=>by kernel_rfl
abbrev N7:LX:=⟨⟨[J3,Nv,Ve,(9,.cl (.ro (.st .server))),TM,TL],[JP,Lx,WF],Y3,0,36⟩,[(.ext 0,⟨[J3,Nv,Ve],[JP,Lx,WF],Y3,0,36⟩)],[.b 2 1 (.st .server)],[1,2,3,9,10,11],[1,2,3]⟩
def Hq(s: (Unit×Unit×Unit×List qQ×Int×Int×Unit)×(M1×LF×Zy×Unit)×List qQ×Unit):N7.R:=
 br (decide (s.1.2.2.2.2.2.1<s.1.2.2.2.2.1)) (iteP (0<=s.1.2.2.2.2.2.1) ((s.1.2.2.2.1[s.1.2.2.2.2.2.1.toNat]?).bind λx60=>(Je x60).bind λy61=>iteP ((s.2.2.1++([y61.1]:List qQ)).length*152<=2 ^ 40) (some (.inl (((),(),(),s.1.2.2.2.1,s.1.2.2.2.2.1,(IntKind.wrap .i64 (s.1.2.2.2.2.2.1+1)),()),s.2.1,(s.2.2.1++([y61.1]:List qQ)),()))) none) none) (some (.inr (((),(),(),()),s.2)))
def N1:=md Hq
def RC[dL] :=HP Tryz.f57 [0] N7 Hq [P4] [] (by kernel_rfl) λs=>by simp only[Hq,tm];kernel_rfl
def II(a0:qN):Option (qN×Unit):=
 (N1 (((),(),(),a0.servers,(a0.servers.length:Int),0,()),((a0.now,a0.servers,a0.sides,a0.master.configs,a0.master.activated,a0.masterUp,a0.lease.epoch,a0.lease.holder,a0.lease.ends,a0.places,()),(0,(),(),(),0,0,0,0,0,(),()),(a0.now,(),a0.sides,a0.master.configs,a0.master.activated,a0.masterUp,a0.lease.epoch,a0.lease.holder,a0.lease.ends,a0.places,()),()),([]:List qQ),())).bind λe62=>(Ip e62.2.1.1.2.2.1).bind λy63=>(Ke (⟨e62.2.1.1.2.2.2.1,e62.2.1.1.2.2.2.2.1⟩:kB)).bind λy64=>(Kt e62.2.1.1.2.2.2.2.2.2.2.2.2.1).bind λy65=>some ((⟨e62.2.1.2.2.1.1,e62.2.2.1,y63.1,y64.1,e62.2.1.2.2.1.2.2.2.2.2.1,(⟨e62.2.1.2.2.1.2.2.2.2.2.2.1,e62.2.1.2.2.1.2.2.2.2.2.2.2.1,e62.2.1.2.2.1.2.2.2.2.2.2.2.2.1⟩:vz),y65.1⟩:qN),())
def Pg[dL] :=FH 57 Tryz.f57 Tn Xb (λx=>II x.1) [Qa,Ue,Se] [RC] (by kernel_rfl) λx=>by simp only[II,tm];kernel_rfl
def Fr(a0:Int)(a1:Int)(a2:Int):Option (Bool×Unit):=
 br (decide (a1<=a0)) (some ((decide (a0<=a2)),())) (some (false,()))
def HF[dL] :=FH 89 Tryz.f89 XW [.b] (λx=>Fr x.1 x.2.1 x.2.2.1) [] [] (by kernel_rfl) λx=>by simp only[Fr,tm];kernel_rfl
def Lb(a0:Int):Option (Bool×Unit):=
 (Fr a0 0 3).bind λy1=>some ((!y1.1),())
def S4[dL] :=FH 207 Tryz.f207 Uz [.b] (λx=>Lb x.1) [HF] [] (by kernel_rfl) λx=>by simp only[Lb,tm];kernel_rfl
abbrev HO:LX:=⟨⟨[OJ,(1,.cl (.fc 207)),MQ,Rc],[],[],0,19⟩,[(.ret,⟨[MH],[],[],0,19⟩),(.ext 0,⟨[Qe],[],[],0,19⟩)],[],[0,1,7,8],[4]⟩
def FC(s: (List Int×Unit×Int×Int×Unit)×Unit×Unit):HO.R:=
 br (decide (s.1.2.2.2.1<s.1.2.2.1)) (iteP (0<=s.1.2.2.2.1) ((s.1.1[s.1.2.2.2.1.toNat]?).bind λx4=>(Lb x4).bind λy5=>br y5.1 (some (.inr (.inl (s.1.2.2.2,(()),(()))))) (some (.inl ((s.1.1,(),s.1.2.2.1,(IntKind.wrap .i64 (s.1.2.2.2.1+1)),()),(()),(()))))) none) (some (.inr (.inr (((),()),(()),(())))))
def GF:=md FC
def KH[dL] :=HP Tryz.f171 [0] HO FC [S4] [] (by kernel_rfl) λs=>by simp only[FC,tm];kernel_rfl
def Gh(a0:List Int):Option (Int×Unit):=
 (GF ((a0,(),(a0.length:Int),0,()),(()),(()))).bind λe6=>Sum.elim (λe6_0=>some e6_0.1) (λ_=>some ((-1),())) e6
def Lw[dL] :=FH 171 Tryz.f171 Zq KB (λx=>Gh x.1) [] [KH] (by kernel_rfl) λx=>by simp only[Gh,tm];kernel_rfl
def F7(a0:List Int):Option (Bool×Unit):=
 (Gh a0).bind λy1=>some ((decide (y1.1≥0)),())
def Kx[dL] :=FH 98 Tryz.f98 Zq [.b] (λx=>F7 x.1) [Lw] [] (by kernel_rfl) λx=>by simp only[F7,tm];kernel_rfl
def JJ(a0:List Int):Option (Bool×Unit):=
 br ((a0.length:Int)==5) ((F7 a0).bind λy1=>some ((!y1.1),())) (some (false,()))
def RU[dL] :=FH 154 Tryz.f154 V5 [.b] (λx=>JJ x.1) [Kx] [] (by kernel_rfl) λx=>by simp only[JJ,tm];kernel_rfl
abbrev OK:LX:=⟨⟨[OJ,(5,.cl (.ro (.i .i64))),MP,MQ],[],[],0,29⟩,[(.ret,⟨[Qj],[],[],0,29⟩),(.ext 0,⟨[Pa],[],[],0,29⟩)],[],[0,5,6,7],[2]⟩
def Gs(s:ZG×Unit×Unit):OK.R:=
 br (decide (s.1.2.2.2.1<s.1.2.2.1)) (iteP (0<=s.1.2.2.2.1) ((s.1.2.1[s.1.2.2.2.1.toNat]?).bind λx5=>(Fr x5 0 4).bind λy6=>br (!y6.1) (some (.inr (.inl ((false,()),(()),(()))))) (br (decide (s.1.2.2.2.1>0)) (iteP (0<=(IntKind.wrap .i64 (s.1.2.2.2.1-1))) ((s.1.1[(IntKind.wrap .i64 (s.1.2.2.2.1-1)).toNat]?).bind λx7=>br (decide (x5<=x7)) (some (.inr (.inl ((false,()),(()),(()))))) (some (.inl ((s.1.1,s.1.2.1,s.1.2.2.1,(IntKind.wrap .i64 (s.1.2.2.2.1+1)),()),(()),(()))))) none) (some (.inl ((s.1.1,s.1.2.1,s.1.2.2.1,(IntKind.wrap .i64 (s.1.2.2.2.1+1)),()),(()),(())))))) none) (some (.inr (.inr (((),()),(()),(())))))
def Kz:=md Gs
def SF[dL] :=HP Tryz.f193 [0] OK Gs [HF] [] (by kernel_rfl) λs=>by simp only[Gs,tm];kernel_rfl
def G1(a0:List Int):Option (Bool×Unit):=
 (Kz ((a0,a0,(a0.length:Int),0,()),(()),(()))).bind λe8=>Sum.elim (λe8_0=>some e8_0.1) (λ_=>some (true,())) e8
def Uc[dL] :=FH 193 Tryz.f193 V5 [.b] (λx=>G1 x.1) [] [SF] (by kernel_rfl) λx=>by simp only[G1,tm];kernel_rfl
abbrev OV:LX:=⟨⟨[OJ,KY,MQ,Rc],[],[],0,19⟩,[(.ret,⟨[MH],[],[],0,19⟩),(.ext 0,⟨[Qe],[],[],0,19⟩)],[],[0,1,7,8],[4]⟩
def HV(s: (List Int×Int×Int×Int×Unit)×Unit×Unit):OV.R:=
 br (decide (s.1.2.2.2.1<s.1.2.2.1)) (iteP (0<=s.1.2.2.2.1) ((s.1.1[s.1.2.2.2.1.toNat]?).bind λx5=>br (s.1.2.1==x5) (some (.inr (.inl (s.1.2.2.2,(()),(()))))) (some (.inl ((s.1.1,s.1.2.1,s.1.2.2.1,(IntKind.wrap .i64 (s.1.2.2.2.1+1)),()),(()),(()))))) none) (some (.inr (.inr (((),()),(()),(())))))
def Mr:=md HV
def ST[dL] :=HP Tryz.f242 [0] OV HV [] [] (by kernel_rfl) λs=>by simp only[HV,tm];kernel_rfl
def LU(a0:List Int)(a1:Int):Option (Int×Unit):=
 (Mr ((a0,a1,(a0.length:Int),0,()),(()),(()))).bind λe6=>Sum.elim (λe6_0=>some e6_0.1) (λ_=>some ((-1),())) e6
def Uv[dL] :=FH 242 Tryz.f242 Vd KB (λx=>LU x.1 x.2.1) [] [ST] (by kernel_rfl) λx=>by simp only[LU,tm];kernel_rfl
def JF(a0:List Int)(a1:Int):Option (Bool×Unit):=
 (LU a0 a1).bind λy1=>some ((decide (y1.1≥0)),())
def Ru[dL] :=FH 224 Tryz.f224 Vd [.b] (λx=>JF x.1 x.2.1) [Uv] [] (by kernel_rfl) λx=>by simp only[JF,tm];kernel_rfl
def Ib(a0:List Int)(a1:Int):Option (Bool×Unit):=
 (JF a0 a1).bind λy1=>some (y1.1,())
def Ow[dL] :=FH 191 Tryz.f191 Vd [.b] (λx=>Ib x.1 x.2.1) [Ru] [] (by kernel_rfl) λx=>by simp only[Ib,tm];kernel_rfl
def PA(a0:Int):Option (Int×Unit):=
 br (decide (a0≥4294967296)) (none) (br (decide (a0≥65536)) (none) (br (decide (a0≥256)) (none) (iteP (0<=(IntKind.wrap .u8 a0)) ((sb0[(IntKind.wrap .u8 a0).toNat]?).bind λx1=>some ((IntKind.wrap .i64 (0+(IntKind.wrap .i64 (x1.toNat:Int)))),())) none)))
def VG[dL] :=FH 265 Tryz.f265 [.ty (.i .u64)] KB (λx=>PA x.1) [] [] (by kernel_rfl) λx=>by simp only[PA,tm];kernel_rfl
def Og(a0:Int):Option (Int×Unit):=
 (PA a0).bind λy1=>some (y1.1,())
def XH[dL] :=FH 246 Tryz.f246 [.ty (.i .u64)] KB (λx=>Og x.1) [VG] [] (by kernel_rfl) λx=>by simp only[Og,tm];kernel_rfl
def IC(a0:Int):Option (Bool×Unit):=
 some ((!(a0==a0)),())
def SZ[dL] :=FH 290 Tryz.f290 Uz [.b] (λx=>IC x.1) [] [] (by kernel_rfl) λx=>by simp only[IC,tm];kernel_rfl
def Im(a0:Int)(a1:Int):Option (Bool×Unit):=
 (IC a0).bind λy1=>br y1.1 ((IC a1).bind λy2=>br (!y2.1) (some (true,())) (some ((decide (a0<a1)),()))) (some ((decide (a0<a1)),()))
def Ub[dL] :=FH 261 Tryz.f261 Zr [.b] (λx=>Im x.1 x.2.1) [SZ] [] (by kernel_rfl) λx=>by simp only[Im,tm];kernel_rfl
abbrev HH:LX:=⟨⟨[OI,KY,Qg,MP,MQ],[],Ia,1,49⟩,[(.ext 2,⟨[OI,KY,Qg,MP],[],Ia,1,49⟩)],[],[0,1,2,6,7],[0,1,2,6]⟩
def Fv(s: (Unit×Int×Int×Int×Int×Unit)×Unit×List Int×Unit):HH.R:=
 br (decide (s.1.2.2.2.2.1>s.1.2.1)) (iteP (0<=s.1.2.2.2.2.1/\s.1.2.2.2.2.1< (s.2.2.1.length:Int)) ((s.2.2.1[s.1.2.2.2.2.1.toNat]?).bind λx10=>iteP (0<=(IntKind.wrap .i64 (s.1.2.2.2.2.1-1))/\(IntKind.wrap .i64 (s.1.2.2.2.2.1-1))< (s.2.2.1.length:Int)) ((s.2.2.1[(IntKind.wrap .i64 (s.1.2.2.2.2.1-1)).toNat]?).bind λx11=>(Im x10 x11).bind λy12=>br y12.1 (iteP (0<=(IntKind.wrap .i64 (s.1.2.2.2.2.1-1))/\(IntKind.wrap .i64 (s.1.2.2.2.2.1-1))< (s.2.2.1.length:Int)) ((s.2.2.1[(IntKind.wrap .i64 (s.1.2.2.2.2.1-1)).toNat]?).bind λx13=>iteP (0<=s.1.2.2.2.2.1/\s.1.2.2.2.2.1< (s.2.2.1.length:Int)) ((s.2.2.1[s.1.2.2.2.2.1.toNat]?).bind λx14=>iteP (0<=s.1.2.2.2.2.1/\s.1.2.2.2.2.1< (s.2.2.1.length:Int)) (iteP (0<=(IntKind.wrap .i64 (s.1.2.2.2.2.1-1))/\(IntKind.wrap .i64 (s.1.2.2.2.2.1-1))< (s.2.2.1.length:Int)) ((s.2.2.1[s.1.2.2.2.2.1.toNat]?).bind λ_=>let z16:=s.2.2.1.set s.1.2.2.2.2.1.toNat x13;(z16[(IntKind.wrap .i64 (s.1.2.2.2.2.1-1)).toNat]?).bind λ_=>some (.inl (((),s.1.2.1,s.1.2.2.1,s.1.2.2.2.1,(IntKind.wrap .i64 (s.1.2.2.2.2.1-1)),()),(()),(z16.set ((IntKind.wrap .i64 (s.1.2.2.2.2.1-1)).toNat) x14),()))) none) none) none) none) (some (.inr (((),s.1.2.1,s.1.2.2.1,s.1.2.2.2.1,()),(()),s.2.2)))) none) none) (some (.inr (((),s.1.2.1,s.1.2.2.1,s.1.2.2.2.1,()),(()),s.2.2)))
def Ga:=md Fv
def KF[dL] :=HP Tryz.f255 [0,0] HH Fv [Ub] [] (by kernel_rfl) λs=>by simp only[Fv,tm];kernel_rfl
abbrev HG:LX:=⟨⟨[OI,KY,Qg,MP],[],Ia,1,49⟩,[(.ext 0,⟨[],[],Ia,1,49⟩)],[],[0,1,2,6],[]⟩
def Fm(s: (Unit×Int×Int×Int×Unit)×Unit×List Int×Unit):HG.R:=
 br (decide (s.1.2.2.2.1<s.1.2.2.1)) ((Ga (((),s.1.2.1,s.1.2.2.1,s.1.2.2.2.1,s.1.2.2.2),(()),s.2.2)).bind λe19=>some (.inl (((),e19.1.2.1,e19.1.2.2.1,(IntKind.wrap .i64 (e19.1.2.2.2.1+1)),()),(()),e19.2.2))) (some (.inr ((()),(()),s.2.2)))
def F9:=md Fm
def KE[dL] :=HP Tryz.f255 [0] HG Fm [] [KF] (by kernel_rfl) λs=>by simp only[Fm,tm];kernel_rfl
def Fy(a0:List Int)(a1:Int)(a2:Int):Option ((List Int)×Unit):=
 (F9 (((),a1,a2,(IntKind.wrap .i64 (a1+1)),()),(()),a0,())).bind λe20=>some e20.2.2
def KT[dL] :=coI 255 Tryz.f255 (.i .i64) Zr [] (λl x=>Fy l x.1 x.2.1) [] [KE] (by kernel_rfl) λl x=>by simp only[Fy,tm];kernel_rfl
abbrev I6:LX:=⟨⟨[OI,KY,Qg,NS,Qi,TK],[],Ia,1,134⟩,[(.ret,⟨[],[],Ia,1,134⟩)],[],[0,1,2,3,8,9],[]⟩
def Gb(s: (Unit×Int×Int×Int×Bool×Bool×Unit)×Unit×List Int×Unit):I6.R:=
 br (decide ((IntKind.wrap .i64 (s.1.2.2.1-s.1.2.1))<=12)) ((Fy s.2.2.1 s.1.2.1 s.1.2.2.1).bind λy7=>iteP (y7.1.length=s.2.2.1.length) (some (.inr ((()),(()),y7.1,()))) none) (br (s.1.2.2.2.1==0) (none) (br (!s.1.2.2.2.2.1) (none) (none)))
def Hm:=md Gb
def ME[dL] :=HP Tryz.f245 [0] I6 Gb [KT] [] (by kernel_rfl) λs=>by simp only[Gb,tm,-eq_self];kernel_rfl
def FO(a0:List Int)(a1:Int)(a2:Int)(a3:Int):Option ((List Int)×Unit):=
 (Hm (((),a1,a2,a3,true,true,()),(()),a0,())).bind λe8=>some e8.2.2
def MW[dL] :=coI 245 Tryz.f245 (.i .i64) XW [] (λl x=>FO l x.1 x.2.1 x.2.2.1) [] [ME] (by kernel_rfl) λl x=>by simp only[FO,tm];kernel_rfl
def Hl(a0:List Int):Option ((List Int)×Unit):=
 (Og (IntKind.wrap .u64 (a0.length:Int))).bind λy1=>(FO a0 0 (a0.length:Int) y1.1).bind λy2=>iteP (y2.1.length=a0.length) (some (y2.1,())) none
def Sj[dL] :=coI 226 Tryz.f226 (.i .i64) [] [] (λl _=>Hl l) [XH,MW] [] (by kernel_rfl) λl x=>by simp only[Hl,tm,-eq_self];kernel_rfl
abbrev LM:LX:=⟨⟨[OI,NS,(4,.cl (.sub 0 (.i .i64))),Ms],[],Ia,0,61⟩,[(.ext 2,⟨[OI,NS],[],Ia,0,61⟩)],[],[0,3,4,5],[0,3]⟩
def Gz(s: (Unit×Int×(Nat×Nat)×Int×Unit)×Unit×List Int×Unit):LM.R:=
 br (decide (s.1.2.2.2.1< ((s.1.2.2.1.2:Nat):Int))) (iteP (0<=s.1.2.2.2.1/\s.1.2.2.2.1< ((s.1.2.2.1.2:Nat):Int)) ((s.2.2.1[(s.1.2.2.1.1+s.1.2.2.2.1.toNat)]?).bind λx9=>iteP (0<=(IntKind.wrap .i64 (s.1.2.2.2.1-1))/\(IntKind.wrap .i64 (s.1.2.2.2.1-1))< ((s.1.2.2.1.2:Nat):Int)) ((s.2.2.1[(s.1.2.2.1.1+(IntKind.wrap .i64 (s.1.2.2.2.1-1)).toNat)]?).bind λx10=>br (!(x9==x10)) (iteP (0<=s.1.2.2.2.1/\s.1.2.2.2.1< ((s.1.2.2.1.2:Nat):Int)) ((s.2.2.1[(s.1.2.2.1.1+s.1.2.2.2.1.toNat)]?).bind λx11=>iteP (0<=s.1.2.1/\s.1.2.1< (s.2.2.1.length:Int)) ((s.2.2.1[s.1.2.1.toNat]?).bind λ_=>some (.inl (((),(IntKind.wrap .i64 (s.1.2.1+1)),s.1.2.2.1,(IntKind.wrap .i64 (s.1.2.2.2.1+1)),()),(()),(s.2.2.1.set s.1.2.1.toNat x11),()))) none) none) (some (.inl (((),s.1.2.1,s.1.2.2.1,(IntKind.wrap .i64 (s.1.2.2.2.1+1)),()),(()),s.2.2)))) none) none) (some (.inr (((),s.1.2.1,()),(()),s.2.2)))
def LK:=md Gz
def Pd[dL] :=HP Tryz.f227 [0,0] LM Gz [] [] (by kernel_rfl) λs=>by simp only[Gz,tm];kernel_rfl
abbrev LL:LX:=⟨⟨[OI,NS],[],Ia,0,61⟩,[(.ret,⟨[OI,(2,.cl (.sub 0 (.i .i64)))],[],Ia,0,61⟩),(.ext 0,⟨[OI,Pa],[],Ia,0,61⟩)],[],[0,3],[0,2]⟩
def FJ(s:Sz×Unit×List Int×Unit):LL.R:=
 br (decide (s.1.2.1< (s.2.2.1.length:Int))) (iteP (0<=s.1.2.1/\s.1.2.1< (s.2.2.1.length:Int)) ((s.2.2.1[s.1.2.1.toNat]?).bind λx3=>iteP (0<=(IntKind.wrap .i64 (s.1.2.1-1))/\(IntKind.wrap .i64 (s.1.2.1-1))< (s.2.2.1.length:Int)) ((s.2.2.1[(IntKind.wrap .i64 (s.1.2.1-1)).toNat]?).bind λx4=>br (x3==x4) (iteP (0<=s.1.2.1/\s.1.2.1<=(s.2.2.1.length:Int)/\(s.2.2.1.length:Int)<=((s.2.2.1.length:Nat):Int)) ((LK (((),s.1.2.1,((0+s.1.2.1.toNat),((s.2.2.1.length:Int).toNat-s.1.2.1.toNat)),1,()),(()),s.2.2)).bind λe16=>iteP (0<=e16.1.2.1/\e16.1.2.1<=(e16.2.2.1.length:Int)/\(e16.2.2.1.length:Int)<=((e16.2.2.1.length:Nat):Int)) (iteP ((0+e16.1.2.1.toNat)+((e16.2.2.1.length:Int).toNat-e16.1.2.1.toNat)<=e16.2.2.1.length) (iteP (0<=(0:Int)/\(0:Int)<=e16.1.2.1/\e16.1.2.1<=((e16.2.2.1.length:Nat):Int)) (some (.inr (.inl (((),((0+(0:Int).toNat),(e16.1.2.1.toNat-(0:Int).toNat)),()),(()),(e16.2.2.1.take (0+e16.1.2.1.toNat)++List.replicate ((e16.2.2.1.length:Int).toNat-e16.1.2.1.toNat) (0:Int)++e16.2.2.1.drop ((0+e16.1.2.1.toNat)+((e16.2.2.1.length:Int).toNat-e16.1.2.1.toNat))),())))) none) none) none) none) (some (.inl (((),(IntKind.wrap .i64 (s.1.2.1+1)),()),(()),s.2.2)))) none) none) (some (.inr (.inr (((),(),()),(()),s.2.2))))
def Jk:=md FJ
def Pc[dL] :=HP Tryz.f227 [0] LL FJ [] [Pd] (by kernel_rfl) λs=>by simp only[FJ,tm];kernel_rfl
def Gy(a0:List Int):Option ((List Int)×Unit):=
 br (decide ((a0.length:Int)<2)) (some (a0,())) ((Jk (((),1,()),(()),a0,())).bind λe17=>Sum.elim (λe17_0=>iteP (e17_0.1.2.1.1=0/\e17_0.1.2.1.2<=e17_0.2.2.1.length) (some ((e17_0.2.2.1.take e17_0.1.2.1.2),())) (iteP (e17_0.1.2.1.1+e17_0.1.2.1.2<=e17_0.2.2.1.length) (some (((e17_0.2.2.1.drop e17_0.1.2.1.1).take e17_0.1.2.1.2),())) none)) (λe17_1=>some e17_1.2.2) e17)
def Qb[dL] :=coM 227 Tryz.f227 (.i .i64) [] KG (λl _=>Gy l) [] [Pc] (by kernel_rfl) λl x=>by simp only[Gy,tm,-eq_self];kernel_rfl
def Ie(a0:List Int):Option ((List Int)×Unit):=
 (Ip a0).bind λy1=>(Hl y1.1).bind λy2=>iteP (y2.1.length=y1.1.length) ((Gy y2.1).bind λy3=>some (y3.1,())) none
def QY[dL] :=FH 195 Tryz.f195 V5 KG (λx=>Ie x.1) [Qa,Sj,Qb] [] (by kernel_rfl) λx=>by simp only[Ie,tm,-eq_self];kernel_rfl
def GA(a0:Int)(a1:List Int):Option (Bool×Unit):=
 (Ib a1 a0).bind λy1=>some (y1.1,())
def LJ[dL] :=FH 244 Tryz.f244 [.ty (.i .i64),.pr (.ls (.i .i64))] [.b] (λx=>GA x.1 x.2.1) [Ow] [] (by kernel_rfl) λx=>by simp only[GA,tm];kernel_rfl
abbrev GU:LX:=⟨⟨[OJ,(1,.fn 244 [.pro (.ls (.i .i64))]),MQ,Rc],[],[],0,19⟩,[(.ret,⟨[MH],[],[],0,19⟩),(.ext 0,⟨[Qe],[],[],0,19⟩)],[],[0,1,7,8],[4]⟩
def Fs(s: (List Int×(List Int×Unit)×Int×Int×Unit)×Unit×Unit):GU.R:=
 br (decide (s.1.2.2.2.1<s.1.2.2.1)) (iteP (0<=s.1.2.2.2.1) ((s.1.1[s.1.2.2.2.1.toNat]?).bind λx5=>(GA x5 s.1.2.1.1).bind λy6=>br y6.1 (some (.inr (.inl (s.1.2.2.2,(()),(()))))) (some (.inl ((s.1.1,s.1.2.1,s.1.2.2.1,(IntKind.wrap .i64 (s.1.2.2.2.1+1)),()),(()),(()))))) none) (some (.inr (.inr (((),()),(()),(())))))
def Ge:=md Fs
def Ji[dL] :=HP Tryz.f171 [0] GU Fs [LJ] [] (by kernel_rfl) λs=>by simp only[Fs,tm];kernel_rfl
def FW(a0:List Int)(a1_0:List Int):Option (Int×Unit):=
 (Ge ((a0,(a1_0,()),(a0.length:Int),0,()),(()),(()))).bind λe7=>Sum.elim (λe7_0=>some e7_0.1) (λ_=>some ((-1),())) e7
def Jw[dL] :=FH 171 Tryz.f171 [.ty (.ls (.i .i64)),.fn 244 KG] KB (λx=>FW x.1 x.2.1.1) [] [Ji] (by kernel_rfl) λx=>by simp only[FW,tm];kernel_rfl
abbrev GD:LX:=⟨⟨[OI,(1,.fn 244 [.pro (.ls (.i .i64))]),Ms,MP],[],Ia,0,42⟩,[(.ext 0,⟨[OI,Ms],[],Ia,0,42⟩)],[],[0,1,5,6],[0,5]⟩
def Fp(s: (Unit×(List Int×Unit)×Int×Int×Unit)×Unit×List Int×Unit):GD.R:=
 br (decide (s.1.2.2.2.1< (s.2.2.1.length:Int))) (iteP (0<=s.1.2.2.2.1/\s.1.2.2.2.1< (s.2.2.1.length:Int)) ((s.2.2.1[s.1.2.2.2.1.toNat]?).bind λx6=>(GA x6 s.1.2.1.1).bind λy7=>br (!y7.1) (iteP (0<=s.1.2.2.1/\s.1.2.2.1< (s.2.2.1.length:Int)) ((s.2.2.1[s.1.2.2.1.toNat]?).bind λ_=>some (.inl (((),s.1.2.1,(IntKind.wrap .i64 (s.1.2.2.1+1)),(IntKind.wrap .i64 (s.1.2.2.2.1+1)),()),(()),(s.2.2.1.set s.1.2.2.1.toNat x6),()))) none) (some (.inl (((),s.1.2.1,s.1.2.2.1,(IntKind.wrap .i64 (s.1.2.2.2.1+1)),()),(()),s.2.2)))) none) (some (.inr (((),s.1.2.2.1,()),(()),s.2.2)))
def GC:=md Fp
def Iz[dL] :=HP Tryz.f243 [0] GD Fp [LJ] [] (by kernel_rfl) λs=>by simp only[Fp,tm];kernel_rfl
def Fz(a0:List Int)(a1_0:List Int):Option ((List Int)×Unit):=
 (FW a0 a1_0).bind λy1=>br (y1.1==(-1)) (some (a0,())) ((GC (((),(a1_0,()),y1.1,(IntKind.wrap .i64 (y1.1+1)),()),(()),a0,())).bind λe12=>iteP (0<=e12.1.2.1/\e12.1.2.1<=(e12.2.2.1.length:Int)/\(e12.2.2.1.length:Int)<=((e12.2.2.1.length:Nat):Int)) (iteP ((0+e12.1.2.1.toNat)+((e12.2.2.1.length:Int).toNat-e12.1.2.1.toNat)<=e12.2.2.1.length) (iteP (0<=(0:Int)/\(0:Int)<=e12.1.2.1/\e12.1.2.1<=((e12.2.2.1.length:Nat):Int)) (iteP ((0+(0:Int).toNat)=0/\(e12.1.2.1.toNat-(0:Int).toNat)<=(e12.2.2.1.take (0+e12.1.2.1.toNat)++List.replicate ((e12.2.2.1.length:Int).toNat-e12.1.2.1.toNat) (0:Int)++e12.2.2.1.drop ((0+e12.1.2.1.toNat)+((e12.2.2.1.length:Int).toNat-e12.1.2.1.toNat))).length) (some (((e12.2.2.1.take (0+e12.1.2.1.toNat)++List.replicate ((e12.2.2.1.length:Int).toNat-e12.1.2.1.toNat) (0:Int)++e12.2.2.1.drop ((0+e12.1.2.1.toNat)+((e12.2.2.1.length:Int).toNat-e12.1.2.1.toNat))).take (e12.1.2.1.toNat-(0:Int).toNat)),())) (iteP ((0+(0:Int).toNat)+(e12.1.2.1.toNat-(0:Int).toNat)<=(e12.2.2.1.take (0+e12.1.2.1.toNat)++List.replicate ((e12.2.2.1.length:Int).toNat-e12.1.2.1.toNat) (0:Int)++e12.2.2.1.drop ((0+e12.1.2.1.toNat)+((e12.2.2.1.length:Int).toNat-e12.1.2.1.toNat))).length) (some ((((e12.2.2.1.take (0+e12.1.2.1.toNat)++List.replicate ((e12.2.2.1.length:Int).toNat-e12.1.2.1.toNat) (0:Int)++e12.2.2.1.drop ((0+e12.1.2.1.toNat)+((e12.2.2.1.length:Int).toNat-e12.1.2.1.toNat))).drop (0+(0:Int).toNat)).take (e12.1.2.1.toNat-(0:Int).toNat)),())) none)) none) none) none)
def IR[dL] :=coM 243 Tryz.f243 (.i .i64) [.fn 244 KG] KG (λl x=>Fz l x.1.1) [Jw] [Iz] (by kernel_rfl) λl x=>by simp only[Fz,tm,-eq_self];kernel_rfl
def Hb(a0:List Int)(a1:List Int):Option ((List Int)×Unit):=
 (Ie a0).bind λy1=>(Fz y1.1 a1).bind λy2=>some (y2.1,())
def Qw[dL] :=FH 225 Tryz.f225 UA KG (λx=>Hb x.1 x.2.1) [QY,IR] [] (by kernel_rfl) λx=>by simp only[Hb,tm];kernel_rfl
def It(a0:List Int)(a1:List Int):Option ((List Int)×Unit):=
 (Hb a0 a1).bind λy1=>(Hb a0 y1.1).bind λy2=>some (y2.1,())
def Rn[dL] :=FH 194 Tryz.f194 UA KG (λx=>It x.1 x.2.1) [Qw] [] (by kernel_rfl) λx=>by simp only[It,tm];kernel_rfl
def GW(a0:om):Option (Bool×Unit):=
 (Fr a0.epoch 1 20).bind λy1=>br y1.1 ((G1 a0.replicas).bind λy2=>br y2.1 ((G1 a0.witnesses).bind λy3=>br y3.1 ((Ib a0.replicas a0.primary).bind λy4=>br y4.1 ((It a0.replicas a0.witnesses).bind λy5=>some (((y5.1.length:Int)==0),())) (some (false,()))) (some (false,()))) (some (false,()))) (some (false,()))
def Lz[dL] :=FH 121 Tryz.f121 V6 [.b] (λx=>GW x.1) [HF,Uc,Ow,Rn] [] (by kernel_rfl) λx=>by simp only[GW,tm];kernel_rfl
abbrev N6:LX:=⟨⟨[J3,(6,.cl (.ro (.st .config))),MQ,Rc],[V9],[],0,30⟩,[(.ret,⟨[J3,Qj],[V9],[],0,30⟩),(.ext 0,⟨[J3,Pa],[V9],[],0,30⟩)],[],[1,6,7,8],[1,2]⟩
def Hp(s: (Unit×List om×Int×Int×Unit)×(Z9×Unit)×Unit):N6.R:=
 br (decide (s.1.2.2.2.1<s.1.2.2.1)) (iteP (0<=s.1.2.2.2.1) ((s.1.2.1[s.1.2.2.2.1.toNat]?).bind λx6=>(GW x6).bind λy7=>br (!y7.1) (some (.inr (.inl (((),false,()),s.2.1,(()))))) (br (!(x6.epoch==(IntKind.wrap .i64 (s.1.2.2.2.1+1)))) (some (.inr (.inl (((),false,()),s.2.1,(()))))) (some (.inl (((),s.1.2.1,s.1.2.2.1,(IntKind.wrap .i64 (s.1.2.2.2.1+1)),()),s.2.1,(())))))) none) (some (.inr (.inr (((),(),()),s.2.1,(())))))
def LC:=md Hp
def RB[dL] :=HP Tryz.f138 [0] N6 Hp [Lz] [] (by kernel_rfl) λs=>by simp only[Hp,tm];kernel_rfl
def IH(a0:kB):Option (Bool×Unit):=
 (LC (((),a0.configs,(a0.configs.length:Int),0,()),((a0.configs,a0.activated,()),()),(()))).bind λe8=>Sum.elim (λe8_0=>some e8_0.1.2) (λe8_1=>(Fr e8_1.2.1.1.2.1 0 (e8_1.2.1.1.1.length:Int)).bind λy9=>some (y9.1,())) e8
def Pe[dL] :=FH 138 Tryz.f138 Xa [.b] (λx=>IH x.1) [HF] [RB] (by kernel_rfl) λx=>by simp only[IH,tm];kernel_rfl
def IG(a0:vz):Option (Bool×Unit):=
 br ((a0.epoch==0)&&((a0.holder==0)&&((a0.ends==0)&&true))) (some (true,())) ((Fr a0.epoch 1 20).bind λy1=>br y1.1 ((Fr a0.holder 0 4).bind λy2=>br y2.1 ((Fr a0.ends 1 1049).bind λy3=>some (y3.1,())) (some (false,()))) (some (false,())))
def WY[dL] :=FH 134 Tryz.f134 XY [.b] (λx=>IG x.1) [HF] [] (by kernel_rfl) λx=>by simp only[IG,tm];kernel_rfl
def Kb(a0:vB):Option (Bool×Unit):=
 (Fr a0.rack 0 9).bind λy1=>br (!y1.1) (some (true,())) ((Fr a0.capacity 0 9).bind λy2=>br (!y2.1) (some (true,())) ((Fr a0.load 0 99).bind λy3=>some ((!y3.1),())))
def RT[dL] :=FH 209 Tryz.f209 [.ty (.st .place)] [.b] (λx=>Kb x.1) [HF] [] (by kernel_rfl) λx=>by simp only[Kb,tm];kernel_rfl
abbrev Hn:LX:=⟨⟨[Q9,(1,.cl (.fc 209)),MQ,Rc],[],[],0,19⟩,[(.ret,⟨[MH],[],[],0,19⟩),(.ext 0,⟨[Qe],[],[],0,19⟩)],[],[0,1,7,8],[4]⟩
def Fx(s: (List vB×Unit×Int×Int×Unit)×Unit×Unit):Hn.R:=
 br (decide (s.1.2.2.2.1<s.1.2.2.1)) (iteP (0<=s.1.2.2.2.1) ((s.1.1[s.1.2.2.2.1.toNat]?).bind λx4=>(Kb x4).bind λy5=>br y5.1 (some (.inr (.inl (s.1.2.2.2,(()),(()))))) (some (.inl ((s.1.1,(),s.1.2.2.1,(IntKind.wrap .i64 (s.1.2.2.2.1+1)),()),(()),(()))))) none) (some (.inr (.inr (((),()),(()),(())))))
def Gm:=md Fx
def JQ[dL] :=HP Tryz.f230 [0] Hn Fx [RT] [] (by kernel_rfl) λs=>by simp only[Fx,tm];kernel_rfl
def F8(a0:List vB):Option (Int×Unit):=
 (Gm ((a0,(),(a0.length:Int),0,()),(()),(()))).bind λe6=>Sum.elim (λe6_0=>some e6_0.1) (λ_=>some ((-1),())) e6
def Ky[dL] :=FH 230 Tryz.f230 Zs KB (λx=>F8 x.1) [] [JQ] (by kernel_rfl) λx=>by simp only[F8,tm];kernel_rfl
def FV(a0:List vB):Option (Bool×Unit):=
 (F8 a0).bind λy1=>some ((decide (y1.1≥0)),())
def Jv[dL] :=FH 208 Tryz.f208 Zs [.b] (λx=>FV x.1) [Ky] [] (by kernel_rfl) λx=>by simp only[FV,tm];kernel_rfl
def JT(a0:List vB):Option (Bool×Unit):=
 br ((a0.length:Int)==5) ((FV a0).bind λy1=>some ((!y1.1),())) (some (false,()))
def UX[dL] :=FH 155 Tryz.f155 XX [.b] (λx=>JT x.1) [Jv] [] (by kernel_rfl) λx=>by simp only[JT,tm];kernel_rfl
def JU(a0:Op):Option (Bool×Unit):=
 (Fr a0.client 0 2).bind λy1=>br (!y1.1) (some (false,())) ((Fr a0.seq 1 99).bind λy2=>br (!y2.1) (some (false,())) ((Fr a0.object 0 2).bind λy3=>br (!y3.1) (some (false,())) ((Fr a0.value 0 9).bind λy4=>br (!y4.1) (some (false,())) (br (a0.kind==1) (br (a0.old==0) (some (true,())) (br (a0.kind==2) ((Fr a0.old 0 9).bind λy5=>some (y5.1,())) (some (false,())))) (br (a0.kind==2) ((Fr a0.old 0 9).bind λy6=>some (y6.1,())) (some (false,())))))))
def UY[dL] :=FH 203 Tryz.f203 Wv [.b] (λx=>JU x.1) [HF] [] (by kernel_rfl) λx=>by simp only[JU,tm];kernel_rfl
abbrev TN:LX:=⟨⟨[Pb,(5,.cl (.ro (.st .entry))),MP,MQ],[],[],0,41⟩,[(.ret,⟨[Pb,Qj],[],[],0,41⟩),(.ext 0,⟨[Pb,Pa],[],[],0,41⟩)],[],[0,5,6,7],[0,2]⟩
def L0(s:ZH×Unit×Unit):TN.R:=
 br (decide (s.1.2.2.2.1<s.1.2.2.1)) (iteP (0<=s.1.2.2.2.1) ((s.1.2.1[s.1.2.2.2.1.toNat]?).bind λx5=>(Fr x5.epoch 1 20).bind λy6=>br (!y6.1) (some (.inr (.inl ((s.1.1,false,()),(()),(()))))) (br (decide (s.1.2.2.2.1>0)) (iteP (0<=(IntKind.wrap .i64 (s.1.2.2.2.1-1))) ((s.1.1[(IntKind.wrap .i64 (s.1.2.2.2.1-1)).toNat]?).bind λx7=>br (decide (x5.epoch<x7.epoch)) (some (.inr (.inl ((s.1.1,false,()),(()),(()))))) ((JU x5.op).bind λy8=>br (!y8.1) (some (.inr (.inl ((s.1.1,false,()),(()),(()))))) (some (.inl ((s.1.1,s.1.2.1,s.1.2.2.1,(IntKind.wrap .i64 (s.1.2.2.2.1+1)),()),(()),(())))))) none) ((JU x5.op).bind λy9=>br (!y9.1) (some (.inr (.inl ((s.1.1,false,()),(()),(()))))) (some (.inl ((s.1.1,s.1.2.1,s.1.2.2.1,(IntKind.wrap .i64 (s.1.2.2.2.1+1)),()),(()),(()))))))) none) (some (.inr (.inr ((s.1.1,(),()),(()),(())))))
def QD:=md L0
def Xf[dL] :=HP Tryz.f140 [0] TN L0 [HF,UY] [] (by kernel_rfl) λs=>by simp only[L0,tm];kernel_rfl
def Kd(a0:List sf):Option (Bool×Unit):=
 (QD ((a0,a0,(a0.length:Int),0,()),(()),(()))).bind λe10=>Sum.elim (λe10_0=>some e10_0.1.2) (λe10_1=>some ((decide ((e10_1.1.1.length:Int)<=16)),())) e10
def Ud[dL] :=FH 140 Tryz.f140 QI [.b] (λx=>Kd x.1) [] [Xf] (by kernel_rfl) λx=>by simp only[Kd,tm];kernel_rfl
abbrev OU:LX:=⟨⟨[OJ,Qf,Po,X7],[],[],0,26⟩,[(.ret,⟨[Sv],[],[],0,26⟩),(.ext 0,⟨[Qe],[],[],0,26⟩)],[],[0,1,12,13],[4]⟩
def Hf(s:ZG×Unit×Unit):OU.R:=
 br (decide (s.1.2.2.2.1<s.1.2.2.1)) (iteP (0<=s.1.2.2.2.1) ((s.1.1[s.1.2.2.2.1.toNat]?).bind λx5=>iteP (0<=s.1.2.2.2.1) ((s.1.2.1[s.1.2.2.2.1.toNat]?).bind λx6=>br (!(x5==x6)) (some (.inr (.inl ((false,()),(()),(()))))) (some (.inl ((s.1.1,s.1.2.1,s.1.2.2.1,(IntKind.wrap .i64 (s.1.2.2.2.1+1)),()),(()),(()))))) none) none) (some (.inr (.inr (((),()),(()),(())))))
def Mq:=md Hf
def SR[dL] :=HP Tryz.f74 [0] OU Hf [] [] (by kernel_rfl) λs=>by simp only[Hf,tm];kernel_rfl
def Iq(a0:List Int)(a1:List Int):Option (Bool×Unit):=
 br (!((a0.length:Int)==(a1.length:Int))) (some (false,())) ((Mq ((a0,a1,(a0.length:Int),0,()),(()),(()))).bind λe7=>Sum.elim (λe7_0=>some e7_0.1) (λ_=>some (true,())) e7)
def Qc[dL] :=FH 74 Tryz.f74 UA [.b] (λx=>Iq x.1 x.2.1) [] [SR] (by kernel_rfl) λx=>by simp only[Iq,tm];kernel_rfl
def HX(a0:List Int)(a1:List Int):Option (Bool×Unit):=
 (Iq a0 a1).bind λy1=>some (y1.1,())
def RX[dL] :=FH 206 Tryz.f206 UA [.b] (λx=>HX x.1 x.2.1) [Qc] [] (by kernel_rfl) λx=>by simp only[HX,tm];kernel_rfl
def Gj(a0:om)(a1:om):Option (Bool×Unit):=
 br (a0.epoch==a1.epoch) (br (a0.primary==a1.primary) ((HX a0.replicas a1.replicas).bind λy1=>br y1.1 ((HX a0.witnesses a1.witnesses).bind λy2=>some (y2.1,())) (some (false,()))) (some (false,()))) (some (false,()))
def I2[dL] :=FH 151 Tryz.f151 Zj [.b] (λx=>Gj x.1 x.2.1) [RX] [] (by kernel_rfl) λx=>by simp only[Gj,tm];kernel_rfl
def JV(a0:List sf):Option (Int×Unit):=
 br ((a0.length:Int)==0) (some (0,())) (iteP (0<=(IntKind.wrap .i64 ((a0.length:Int)-1))) ((a0[(IntKind.wrap .i64 ((a0.length:Int)-1)).toNat]?).bind λx1=>some (x1.epoch,())) none)
def QZ[dL] :=FH 141 Tryz.f141 QI KB (λx=>JV x.1) [] [] (by kernel_rfl) λx=>by simp only[JV,tm];kernel_rfl
def Jm(a0:om)(a1:Int):Option (Int×Unit):=
 (GW a0).bind λy1=>br (!y1.1) (some (0,())) (br (a1==a0.primary) (some (1,())) ((Ib a0.replicas a1).bind λy2=>br y2.1 (some (2,())) ((Ib a0.witnesses a1).bind λy3=>br y3.1 (some (3,())) (some (0,())))))
def R0[dL] :=FH 123 Tryz.f123 Zk KB (λx=>Jm x.1 x.2.1) [Lz,Ow] [] (by kernel_rfl) λx=>by simp only[Jm,tm];kernel_rfl
def Oh(a0:Int)(a1:List sf):Option (Bool×Unit):=
 (Kd a1).bind λy1=>br y1.1 (br (decide ((a1.length:Int)<=3)) ((Fr a0 0 (IntKind.wrap .i64 (16-(a1.length:Int)))).bind λy2=>br y2.1 (br (a0==0) (some (true,())) (some (((a1.length:Int)==3),()))) (some (false,()))) (some (false,()))) (some (false,()))
def XI[dL] :=FH 172 Tryz.f172 Zo [.b] (λx=>Oh x.1 x.2.1) [Ud,HF] [] (by kernel_rfl) λx=>by simp only[Oh,tm];kernel_rfl
def Hv(a0:qQ)(a1:Int):Option (Bool×Unit):=
 (Fr a0.version 1 2).bind λy1=>br (!y1.1) (some (false,())) ((Fr a0.epoch 0 20).bind λy2=>br (!y2.1) (some (false,())) ((Kd a0.log).bind λy3=>br (!y3.1) (some (false,())) ((Kd a0.learned).bind λy4=>br (!y4.1) (some (false,())) ((Fr a0.first 0 16).bind λy5=>br (!y5.1) (some (false,())) (br (decide ((IntKind.wrap .i64 (a0.first+(a0.log.length:Int)))>16)) (some (false,())) ((Fr a0.commit 0 (IntKind.wrap .i64 (a0.first+(a0.log.length:Int)))).bind λy6=>br (!y6.1) (some (false,())) ((Gj a0.config (⟨0,0,([]:List Int),([]:List Int)⟩:om)).bind λy7=>br y7.1 (br (a0.first==0) (br (a0.commit==0) (some (((a0.log.length:Int)==0),())) (some (false,()))) (some (false,()))) (br (!a0.intact) (some (false,())) (br (decide (a0.epoch<a0.config.epoch)) (some (false,())) ((JV a0.log).bind λy8=>br (decide (y8.1>a0.config.epoch)) (some (false,())) ((Jm a0.config a1).bind λy9=>br (y9.1==1) (some ((a0.first==0),())) (br (y9.1==2) (some ((a0.first==0),())) (br (y9.1==3) ((Oh a0.first a0.log).bind λy12=>some (y12.1,())) (some (false,())))))))))))))))
def NW[dL] :=FH 156 Tryz.f156 V7 [.b] (λx=>Hv x.1 x.2.1) [HF,Ud,I2,QZ,R0,XI] [] (by kernel_rfl) λx=>by simp only[Hv,tm];kernel_rfl
def JK(a0:kB)(a1:Int):Option (om×Bool×Unit):=
 (IH a0).bind λy1=>br (!y1.1) (some ((⟨0,0,([]:List Int),([]:List Int)⟩:om),false,())) ((Fr a1 1 (a0.configs.length:Int)).bind λy2=>br (!y2.1) (some ((⟨0,0,([]:List Int),([]:List Int)⟩:om),false,())) (iteP (0<=(IntKind.wrap .i64 (a1-1))) ((a0.configs[(IntKind.wrap .i64 (a1-1)).toNat]?).bind λx3=>(Gu x3).bind λy4=>some (y4.1,true,())) none))
def VH[dL] :=FH 157 Tryz.f157 XZ Ye (λx=>JK x.1 x.2.1) [Pe,HF,NN] [] (by kernel_rfl) λx=>by simp only[JK,tm];kernel_rfl
abbrev Mu:LX:=⟨⟨[J3,(57,.cl (.ro (.st .server))),(58,.cl (.int .i64)),(59,.cl (.int .i64))],[JP],[],0,118⟩,[(.ret,⟨[Qj],[],[],0,118⟩),(.ext 0,⟨[Pa],[],[],0,118⟩)],[],[1,57,58,59],[2]⟩
def GJ(s: (Unit×List qQ×Int×Int×Unit)×(M1×Unit)×Unit):Mu.R:=
 br (decide (s.1.2.2.2.1<s.1.2.2.1)) (iteP (0<=s.1.2.2.2.1) ((s.1.2.1[s.1.2.2.2.1.toNat]?).bind λx20=>(Hv x20 s.1.2.2.2.1).bind λy21=>br (!y21.1) (some (.inr (.inl ((false,()),(()),(()))))) (br (decide (x20.epoch>(s.2.1.1.2.2.2.1.length:Int))) (some (.inr (.inl ((false,()),(()),(()))))) ((JV x20.learned).bind λy22=>br (decide (y22.1>s.2.1.1.2.2.2.2.1)) (some (.inr (.inl ((false,()),(()),(()))))) ((Gj x20.config (⟨0,0,([]:List Int),([]:List Int)⟩:om)).bind λy23=>br y23.1 (some (.inl (((),s.1.2.1,s.1.2.2.1,(IntKind.wrap .i64 (s.1.2.2.2.1+1)),()),s.2.1,(())))) ((JK (⟨s.2.1.1.2.2.2.1,s.2.1.1.2.2.2.2.1⟩:kB) x20.config.epoch).bind λy24=>br (!y24.2.1) (some (.inr (.inl ((false,()),(()),(()))))) ((Gj y24.1 x20.config).bind λy25=>br (!y25.1) (some (.inr (.inl ((false,()),(()),(()))))) (br (decide (x20.config.epoch>s.2.1.1.2.2.2.2.1)) (some (.inr (.inl ((false,()),(()),(()))))) (some (.inl (((),s.1.2.1,s.1.2.2.1,(IntKind.wrap .i64 (s.1.2.2.2.1+1)),()),s.2.1,(()))))))))))) none) (some (.inr (.inr (((),()),(()),(())))))
def JN:=md GJ
def PL[dL] :=HP Tryz.f77 [0] Mu GJ [NW,QZ,I2,VH] [] (by kernel_rfl) λs=>by simp only[GJ,tm];kernel_rfl
def HY(a0:qN):Option (Bool×Unit):=
 (Fr a0.now 0 999).bind λy1=>br (!y1.1) (some (false,())) (br (!((a0.servers.length:Int)==5)) (some (false,())) ((JJ a0.sides).bind λy2=>br (!y2.1) (some (false,())) ((IH a0.master).bind λy3=>br (!y3.1) (some (false,())) ((IG a0.lease).bind λy4=>br (!y4.1) (some (false,())) ((JT a0.places).bind λy5=>br (!y5.1) (some (false,())) ((Fr a0.masterUp 0 3).bind λy6=>br (!y6.1) (some (false,())) (br (decide (a0.lease.epoch>a0.master.activated)) (some (false,())) ((JN (((),a0.servers,(a0.servers.length:Int),0,()),((a0.now,a0.servers,a0.sides,a0.master.configs,a0.master.activated,a0.masterUp,a0.lease.epoch,a0.lease.holder,a0.lease.ends,a0.places,()),()),(()))).bind λe26=>Sum.elim (λe26_0=>some e26_0.1) (λ_=>some (true,())) e26))))))))
def Qv[dL] :=FH 77 Tryz.f77 Tn [.b] (λx=>HY x.1) [HF,RU,Pe,WY,UX] [PL] (by kernel_rfl) λx=>by simp only[HY,tm];kernel_rfl
def G3(a0:qN)(a1:Int):Option (Bool×Unit):=
 (HY a0).bind λy1=>br y1.1 ((Fr a1 0 4).bind λy2=>some (y2.1,())) (some (false,()))
def S7[dL] :=FH 92 Tryz.f92 LD [.b] (λx=>G3 x.1 x.2.1) [Qv,HF] [] (by kernel_rfl) λx=>by simp only[G3,tm];kernel_rfl
def IU(a0:qQ)(a1:Int):Option (Bool×Unit):=
 (Hv a0 a1).bind λy1=>br y1.1 (br a0.up ((Jm a0.config a1).bind λy2=>br (y2.1==1) (some ((a0.epoch==a0.config.epoch),())) (some (false,()))) (some (false,()))) (some (false,()))
def RY[dL] :=FH 177 Tryz.f177 V7 [.b] (λx=>IU x.1 x.2.1) [NW,R0] [] (by kernel_rfl) λx=>by simp only[IU,tm];kernel_rfl
def Gq(a0:qN)(a1:Int):Option (Bool×Unit):=
 (G3 a0 a1).bind λy1=>br y1.1 (iteP (0<=a1) ((a0.servers[a1.toNat]?).bind λx2=>(IU x2 a1).bind λy3=>some (y3.1,())) none) (some (false,()))
def Ld[dL] :=FH 106 Tryz.f106 LD [.b] (λx=>Gq x.1 x.2.1) [S7,RY] [] (by kernel_rfl) λx=>by simp only[Gq,tm];kernel_rfl
def I1(a1:Int):Option ((List Int)×Unit):=
 br (decide (a1<0)) (none) (br (decide ((IntKind.wrap .i64 (a1-(IntKind.wrap .i64 (0-0))))>0)) (iteP ((0:Int)=0/\(0:Int)=0) (iteP (0< (IntKind.wrap .i64 (a1-(IntKind.wrap .i64 (0-0))))/\(IntKind.wrap .i64 (a1-(IntKind.wrap .i64 (0-0))))*((8:Nat):Int)<=2 ^ 40) (iteP (0<=(0:Int)/\(0:Int)<=(0:Int)/\(0:Int)<=(((IntKind.wrap .i64 (a1-(IntKind.wrap .i64 (0-0)))).toNat:Nat):Int)) (iteP ((0+(0:Int).toNat)=0/\((0:Int).toNat-(0:Int).toNat)<=(List.replicate (IntKind.wrap .i64 (a1-(IntKind.wrap .i64 (0-0)))).toNat (0:Int)).length) (some (((List.replicate (IntKind.wrap .i64 (a1-(IntKind.wrap .i64 (0-0)))).toNat (0:Int)).take ((0:Int).toNat-(0:Int).toNat)),())) (iteP ((0+(0:Int).toNat)+((0:Int).toNat-(0:Int).toNat)<=(List.replicate (IntKind.wrap .i64 (a1-(IntKind.wrap .i64 (0-0)))).toNat (0:Int)).length) (some ((((List.replicate (IntKind.wrap .i64 (a1-(IntKind.wrap .i64 (0-0)))).toNat (0:Int)).drop (0+(0:Int).toNat)).take ((0:Int).toNat-(0:Int).toNat)),())) none)) none) none) none) (some (([]:List Int),())))
def Si[dL] :=FH 228 Tryz.f228 [.nl,.ty (.i .i64)] KG (λx=>I1 x.2.1) [] [] (by kernel_rfl) λx=>by simp only[I1,tm,-eq_self];kernel_rfl
abbrev Ob:LX:=⟨⟨[(0,.cl (.ro (.ls (.i .i64)))),NS,(9,.cl (.ro (.ls (.i .i64)))),TM,TL],[],[],0,36⟩,[(.ext 0,⟨[(0,.cl (.ro (.ls (.i .i64)))),NS],[],[],0,36⟩)],[],[0,3,9,10,11],[0,3]⟩
def Hs(s: (List (List Int)×Int×List (List Int)×Int×Int×Unit)×Unit×Unit):Ob.R:=
 br (decide (s.1.2.2.2.2.1<s.1.2.2.2.1)) (iteP (0<=s.1.2.2.2.2.1) ((s.1.2.2.1[s.1.2.2.2.2.1.toNat]?).bind λx6=>br (decide ((IntKind.wrap .i64 (s.1.2.1+(x6.length:Int)))<0)) (none) (some (.inl ((s.1.1,(IntKind.wrap .i64 (s.1.2.1+(x6.length:Int))),s.1.2.2.1,s.1.2.2.2.1,(IntKind.wrap .i64 (s.1.2.2.2.2.1+1)),()),(()),(()))))) none) (some (.inr ((s.1.1,s.1.2.1,()),(()),(()))))
def N4:=md Hs
def RI[dL] :=HP Tryz.f196 [0] Ob Hs [] [] (by kernel_rfl) λs=>by simp only[Hs,tm];kernel_rfl
abbrev NF:LX:=⟨⟨[Wx,(25,.cl (.ro (.ls (.i .i64)))),(26,.cl (.int .i64)),(27,.cl (.int .i64))],[],Ia,0,36⟩,[(.ext 2,⟨[Wx],[],Ia,0,36⟩)],[],[6,25,26,27],[6]⟩
def G9(s: (Unit×List (List Int)×Int×Int×Unit)×Unit×List Int×Unit):NF.R:=
 br (decide (s.1.2.2.2.1<s.1.2.2.1)) (iteP (0<=s.1.2.2.2.1) ((s.1.2.1[s.1.2.2.2.1.toNat]?).bind λx13=>iteP ((s.2.2.1++x13).length*8<=2 ^ 40) (some (.inl (((),s.1.2.1,s.1.2.2.1,(IntKind.wrap .i64 (s.1.2.2.2.1+1)),()),(()),(s.2.2.1++x13),()))) none) none) (some (.inr (((),()),(()),s.2.2)))
def Nu:=md G9
def QU[dL] :=HP Tryz.f196 [1] NF G9 [] [] (by kernel_rfl) λs=>by simp only[G9,tm];kernel_rfl
def Jt(a0:List (List Int)):Option ((List Int)×Unit):=
 (N4 ((a0,0,a0,(a0.length:Int),0,()),(()),(()))).bind λe7=>(I1 e7.1.2.1).bind λy8=>(Nu (((),e7.1.1,(e7.1.1.length:Int),0,()),(()),y8.1,())).bind λe14=>some e14.2.2
def Te[dL] :=FH 196 Tryz.f196 [.ty (.ls (.ls (.i .i64)))] KG (λx=>Jt x.1) [Si] [RI,QU] (by kernel_rfl) λx=>by simp only[Jt,tm];kernel_rfl
def IV(a0:List Int)(a1:List Int):Option ((List Int)×Unit):=
 (Jt ([a0,a1]:List (List Int))).bind λy1=>(Ie y1.1).bind λy2=>some (y2.1,())
def R1[dL] :=FH 122 Tryz.f122 UA KG (λx=>IV x.1 x.2.1) [Te,QY] [] (by kernel_rfl) λx=>by simp only[IV,tm];kernel_rfl
def Ic(a0:om):Option ((List Int)×Unit):=
 (GW a0).bind λy1=>br (!y1.1) (some (([]:List Int),())) ((IV a0.replicas a0.witnesses).bind λy2=>some (y2.1,()))
def Ox[dL] :=FH 51 Tryz.f51 V6 KG (λx=>Ic x.1) [Lz,R1] [] (by kernel_rfl) λx=>by simp only[Ic,tm];kernel_rfl
def L6(a0:List Int)(a1:Int)(a2:Int):Option (Bool×Unit):=
 (JJ a0).bind λy1=>br y1.1 ((Fr a1 0 4).bind λy2=>br y2.1 ((Fr a2 0 4).bind λy3=>br y3.1 (iteP (0<=a1) ((a0[a1.toNat]?).bind λx4=>iteP (0<=a2) ((a0[a2.toNat]?).bind λx5=>some ((x4==x5),())) none) none) (some (false,()))) (some (false,()))) (some (false,()))
def VJ[dL] :=FH 100 Tryz.f100 X0 [.b] (λx=>L6 x.1 x.2.1 x.2.2.1) [RU,HF] [] (by kernel_rfl) λx=>by simp only[L6,tm];kernel_rfl
def PY(a0:qN)(a1:Int)(a2:Int):Option (Bool×Unit):=
 iteP (0<=a1) ((a0.servers[a1.toNat]?).bind λx1=>iteP (0<=a2) ((a0.servers[a2.toNat]?).bind λx2=>(L6 a0.sides a1 a2).bind λy3=>br y3.1 (br x2.up (br (x2.epoch==x1.epoch) ((Gj x2.config x1.config).bind λy4=>br y4.1 (some ((decide (x2.commit<=(x1.log.length:Int))),())) (some (false,()))) (some (false,()))) (some (false,()))) (some (false,()))) none) none
def YO[dL] :=FH 124 Tryz.f124 Rz [.b] (λx=>PY x.1 x.2.1 x.2.2.1) [VJ,I2] [] (by kernel_rfl) λx=>by simp only[PY,tm];kernel_rfl
def M9(a0:List sf):Option (Int×(List sf)×Unit):=
 (Kd a0).bind λy1=>br (!y1.1) (some (0,([]:List sf),())) (iteP (0<=(if (IntKind.wrap .i64 ((a0.length:Int)-3))>0 then (IntKind.wrap .i64 ((a0.length:Int)-3)) else 0)/\(if (IntKind.wrap .i64 ((a0.length:Int)-3))>0 then (IntKind.wrap .i64 ((a0.length:Int)-3)) else 0)<=(a0.length:Int)/\(a0.length:Int)<=(a0.length:Int)) ((H7 ((a0.drop (if (IntKind.wrap .i64 ((a0.length:Int)-3))>0 then (IntKind.wrap .i64 ((a0.length:Int)-3)) else 0).toNat).take ((a0.length:Int).toNat-(if (IntKind.wrap .i64 ((a0.length:Int)-3))>0 then (IntKind.wrap .i64 ((a0.length:Int)-3)) else 0).toNat))).bind λy2=>some ((if (IntKind.wrap .i64 ((a0.length:Int)-3))>0 then (IntKind.wrap .i64 ((a0.length:Int)-3)) else 0),y2.1,())) none)
def WX[dL] :=FH 126 Tryz.f126 QI Yc (λx=>M9 x.1) [Ud,OD] [] (by kernel_rfl) λx=>by simp only[M9,tm];kernel_rfl
def Gc(a0:qN)(a1:Int)(a2:Int):Option (qN×Bool×Unit):=
 (II a0).bind λy1=>(Gq a0 a1).bind λy2=>br (!y2.1) (some (y1.1,false,())) (iteP (0<=a1) ((a0.servers[a1.toNat]?).bind λx3=>(Jm x3.config a2).bind λy4=>br (y4.1==0) (some (y1.1,false,())) ((PY a0 a1 a2).bind λy5=>br (!y5.1) (some (y1.1,false,())) (iteP (0<=a1) ((a0.servers[a1.toNat]?).bind λx6=>(Je x6).bind λy7=>iteP (0<=a1) ((a0.servers[a1.toNat]?).bind λx8=>(Jm x8.config a2).bind λy9=>br (y9.1==3) ((M9 y7.1.log).bind λy10=>iteP (0<=a2/\a2< (y1.1.servers.length:Int)) (iteP (0<=a2/\a2< (y1.1.servers.length:Int)) ((y1.1.servers[a2.toNat]?).bind λx11=>let z12:=y1.1.servers.set a2.toNat (⟨x11.up,x11.intact,x11.version,x11.epoch,x11.config,y10.1,x11.log,x11.commit,x11.learned⟩:qQ);(z12[a2.toNat]?).bind λx13=>some ((⟨y1.1.now,(z12.set a2.toNat (⟨x13.up,x13.intact,x13.version,x13.epoch,x13.config,x13.first,y10.2.1,x13.commit,x13.learned⟩:qQ)),y1.1.sides,y1.1.master,y1.1.masterUp,y1.1.lease,y1.1.places⟩:qN),true,())) none) none) (iteP (0<=a2/\a2< (y1.1.servers.length:Int)) ((y1.1.servers[a2.toNat]?).bind λx15=>some ((⟨y1.1.now,(y1.1.servers.set a2.toNat (⟨x15.up,x15.intact,x15.version,x15.epoch,x15.config,x15.first,y7.1.log,x15.commit,x15.learned⟩:qQ)),y1.1.sides,y1.1.master,y1.1.masterUp,y1.1.lease,y1.1.places⟩:qN),true,())) none)) none) none))) none)
def Oy[dL] :=FH 53 Tryz.f53 Rz Y1 (λx=>Gc x.1 x.2.1 x.2.2.1) [Pg,Ld,R0,YO,P4,WX] [] (by kernel_rfl) λx=>by simp only[Gc,tm];kernel_rfl
abbrev KC:LX:=⟨⟨[KY,MZ,Qh,WB,Vf,Qi,(28,.cl (.own 0 (.i .i64))),(29,.cl (.int .i64)),(30,.cl (.int .i64))],[JP,Lx,To],Vh,0,68⟩,[(.ext 0,⟨[KY,MZ,Qh,WB,Vf,Qi],[JP,Lx,To],Vh,0,68⟩)],[],[1,2,4,6,7,8,28,29,30],[1,2,4,6,7,8]⟩
def GR(s: (Int×Unit×Unit×Unit×Unit×Bool×Unit×Int×Int×Unit)×(M1×LF×LF×Unit)×List Int×List qQ×List Int×List om×List vB×Unit):KC.R:=
 br (decide (s.1.2.2.2.2.2.2.2.2.1<s.1.2.2.2.2.2.2.2.1)) (iteP (0<=s.1.2.2.2.2.2.2.2.2.1/\s.1.2.2.2.2.2.2.2.2.1< (s.2.2.1.length:Int)) ((s.2.2.1[s.1.2.2.2.2.2.2.2.2.1.toNat]?).bind λx36=>(Gc (⟨s.2.1.2.2.1.1,s.2.2.2.1,s.2.2.2.2.1,(⟨s.2.2.2.2.2.1,s.2.1.2.2.1.2.2.2.2.1⟩:kB),s.2.1.2.2.1.2.2.2.2.2.1,(⟨s.2.1.2.2.1.2.2.2.2.2.2.1,s.2.1.2.2.1.2.2.2.2.2.2.2.1,s.2.1.2.2.1.2.2.2.2.2.2.2.2.1⟩:vz),s.2.2.2.2.2.2.1⟩:qN) s.1.1 x36).bind λy37=>let j39 (p38:Bool):KC.R:=some (.inl ((s.1.1,(),(),(),(),p38,(),s.1.2.2.2.2.2.2.2.1,(IntKind.wrap .i64 (s.1.2.2.2.2.2.2.2.2.1+1)),()),(s.2.1.1,s.2.1.2.1,(y37.1.now,(),(),(),y37.1.master.activated,y37.1.masterUp,y37.1.lease.epoch,y37.1.lease.holder,y37.1.lease.ends,(),()),()),s.2.2.1,y37.1.servers,y37.1.sides,y37.1.master.configs,y37.1.places,()));br s.1.2.2.2.2.2.1 (j39 y37.2.1) (j39 false)) none) (some (.inr ((s.1.1,(),(),(),(),s.1.2.2.2.2.2.1,()),s.2)))
def MM:=md GR
def Qp[dL] :=HP Tryz.f45 [0] KC GR [Oy] [] (by kernel_rfl) λs=>by simp only[GR,tm];kernel_rfl
abbrev Mt:LX:=⟨⟨[KY,MZ,Qh,WB,Qi,(47,.cl (.own 0 (.i .i64))),(48,.cl (.int .i64)),(49,.cl (.int .i64))],[JP,Lx,To],Vh,0,68⟩,[(.ext 2,⟨[OH,Nx,Qi],[Lx,Tp],Vi,0,68⟩)],[],[1,2,4,6,8,47,48,49],[4,6,8]⟩
def GH(s: (Int×Unit×Unit×Unit×Bool×Unit×Int×Int×Unit)×(M1×LF×LF×Unit)×List Int×List qQ×List Int×List om×List vB×Unit):Mt.R:=
 br (decide (s.1.2.2.2.2.2.2.2.1<s.1.2.2.2.2.2.2.1)) (iteP (0<=s.1.2.2.2.2.2.2.2.1/\s.1.2.2.2.2.2.2.2.1< (s.2.2.1.length:Int)) ((s.2.2.1[s.1.2.2.2.2.2.2.2.1.toNat]?).bind λx72=>iteP (0<=s.1.1) ((s.2.1.1.2.1[s.1.1.toNat]?).bind λx73=>iteP (0<=x72/\x72< (s.2.2.2.1.length:Int)) ((s.2.2.2.1[x72.toNat]?).bind λx74=>some (.inl ((s.1.1,(),(),(),s.1.2.2.2.2.1,(),s.1.2.2.2.2.2.2.1,(IntKind.wrap .i64 (s.1.2.2.2.2.2.2.2.1+1)),()),s.2.1,s.2.2.1,(s.2.2.2.1.set x72.toNat (⟨x74.up,x74.intact,x74.version,x74.epoch,x74.config,x74.first,x74.log,(x73.log.length:Int),x74.learned⟩:qQ)),s.2.2.2.2))) none) none) none) (some (.inr (((),(),s.1.2.2.2.2.1,()),s.2.1.2,s.2.2.2)))
def Ml:=md GH
def PK[dL] :=HP Tryz.f45 [1] Mt GH [] [] (by kernel_rfl) λs=>by simp only[GH,tm];kernel_rfl
def Ht(a0:qN)(a1:Int):Option (qN×Bool×Unit):=
 (II a0).bind λy1=>(Gq a0 a1).bind λy2=>br (!y2.1) (some (y1.1,false,())) (iteP (0<=a1) ((a0.servers[a1.toNat]?).bind λx3=>(Ic x3.config).bind λy4=>(MM ((a1,(),(),(),(),true,(),(y4.1.length:Int),0,()),((a0.now,a0.servers,a0.sides,a0.master.configs,a0.master.activated,a0.masterUp,a0.lease.epoch,a0.lease.holder,a0.lease.ends,a0.places,()),(0,(),(),(),0,0,0,0,0,(),()),(y1.1.now,(),(),(),y1.1.master.activated,y1.1.masterUp,y1.1.lease.epoch,y1.1.lease.holder,y1.1.lease.ends,(),()),()),y4.1,y1.1.servers,y1.1.sides,y1.1.master.configs,y1.1.places,())).bind λe40=>br e40.1.2.2.2.2.2.1 ((Ml ((e40.1.1,(),(),(),e40.1.2.2.2.2.2.1,(),(e40.2.2.1.length:Int),0,()),e40.2)).bind λe76=>some ((⟨e76.2.1.2.1.1,e76.2.2.1,e76.2.2.2.1,(⟨e76.2.2.2.2.1,e76.2.1.2.1.2.2.2.2.1⟩:kB),e76.2.1.2.1.2.2.2.2.2.1,(⟨e76.2.1.2.1.2.2.2.2.2.2.1,e76.2.1.2.1.2.2.2.2.2.2.2.1,e76.2.1.2.1.2.2.2.2.2.2.2.2.1⟩:vz),e76.2.2.2.2.2.1⟩:qN),e76.1.2.2)) (some ((⟨e40.2.1.2.2.1.1,e40.2.2.2.1,e40.2.2.2.2.1,(⟨e40.2.2.2.2.2.1,e40.2.1.2.2.1.2.2.2.2.1⟩:kB),e40.2.1.2.2.1.2.2.2.2.2.1,(⟨e40.2.1.2.2.1.2.2.2.2.2.2.1,e40.2.1.2.2.1.2.2.2.2.2.2.2.1,e40.2.1.2.2.1.2.2.2.2.2.2.2.2.1⟩:vz),e40.2.2.2.2.2.2.1⟩:qN),e40.1.2.2.2.2.2))) none)
def Rm[dL] :=FH 45 Tryz.f45 LD Y1 (λx=>Ht x.1 x.2.1) [Pg,Ld,Ox] [Qp,PK] (by kernel_rfl) λx=>by simp only[Ht,tm];kernel_rfl
abbrev NG:LX:=⟨⟨[Pb,X5,Po,X7],[],[],0,26⟩,[(.ret,⟨[Sv],[],[],0,26⟩),(.ext 0,⟨[Qe],[],[],0,26⟩)],[],[0,1,12,13],[4]⟩
def Ha(s:ZH×Unit×Unit):NG.R:=
 br (decide (s.1.2.2.2.1<s.1.2.2.1)) (iteP (0<=s.1.2.2.2.1) ((s.1.1[s.1.2.2.2.1.toNat]?).bind λx5=>iteP (0<=s.1.2.2.2.1) ((s.1.2.1[s.1.2.2.2.1.toNat]?).bind λx6=>br (!((x5.epoch==x6.epoch)&&((x5.op.client==x6.op.client)&&((x5.op.seq==x6.op.seq)&&((x5.op.kind==x6.op.kind)&&((x5.op.object==x6.op.object)&&((x5.op.old==x6.op.old)&&((x5.op.value==x6.op.value)&&true)))))))) (some (.inr (.inl ((false,()),(()),(()))))) (some (.inl ((s.1.1,s.1.2.1,s.1.2.2.1,(IntKind.wrap .i64 (s.1.2.2.2.1+1)),()),(()),(()))))) none) none) (some (.inr (.inr (((),()),(()),(())))))
def KX:=md Ha
def QV[dL] :=HP Tryz.f152 [0] NG Ha [] [] (by kernel_rfl) λs=>by simp only[Ha,tm];kernel_rfl
def H8(a0:List sf)(a1:List sf):Option (Bool×Unit):=
 br (!((a0.length:Int)==(a1.length:Int))) (some (false,())) ((KX ((a0,a1,(a0.length:Int),0,()),(()),(()))).bind λe7=>Sum.elim (λe7_0=>some e7_0.1) (λ_=>some (true,())) e7)
def Sf[dL] :=FH 152 Tryz.f152 Ww [.b] (λx=>H8 x.1 x.2.1) [] [QV] (by kernel_rfl) λx=>by simp only[H8,tm];kernel_rfl
def GZ(a0:qQ)(a1:qQ):Option (Bool×Unit):=
 br (a0.up==a1.up) (br (a0.intact==a1.intact) (br (a0.version==a1.version) (br (a0.epoch==a1.epoch) ((Gj a0.config a1.config).bind λy1=>br y1.1 (br (a0.first==a1.first) ((H8 a0.log a1.log).bind λy2=>br y2.1 (br (a0.commit==a1.commit) ((H8 a0.learned a1.learned).bind λy3=>some (y3.1,())) (some (false,()))) (some (false,()))) (some (false,()))) (some (false,()))) (some (false,()))) (some (false,()))) (some (false,()))) (some (false,()))
def O8[dL] :=FH 73 Tryz.f73 [.ty (.st .server),.ty (.st .server)] [.b] (λx=>GZ x.1 x.2.1) [I2,Sf] [] (by kernel_rfl) λx=>by simp only[GZ,tm];kernel_rfl
abbrev GG:LX:=⟨⟨[(1,.cl (.ro (.st .server))),(2,.cl (.fc 73)),(15,.cl (.ro (.st .server))),(16,.cl (.int .i64)),(17,.cl (.int .i64))],[],[],0,32⟩,[(.ret,⟨[(6,.cl (.bl))],[],[],0,32⟩),(.ext 0,⟨[X2],[],[],0,32⟩)],[],[1,2,15,16,17],[6]⟩
def FI(s: (List qQ×Unit×List qQ×Int×Int×Unit)×Unit×Unit):GG.R:=
 br (decide (s.1.2.2.2.2.1<s.1.2.2.2.1)) (iteP (0<=s.1.2.2.2.2.1) ((s.1.2.2.1[s.1.2.2.2.2.1.toNat]?).bind λx5=>iteP (0<=s.1.2.2.2.2.1) ((s.1.1[s.1.2.2.2.2.1.toNat]?).bind λx6=>(GZ x5 x6).bind λy7=>br (!y7.1) (some (.inr (.inl ((false,()),(()),(()))))) (some (.inl ((s.1.1,(),s.1.2.2.1,s.1.2.2.2.1,(IntKind.wrap .i64 (s.1.2.2.2.2.1+1)),()),(()),(()))))) none) none) (some (.inr (.inr (((),()),(()),(())))))
def IM:=md FI
def IP[dL] :=HP Tryz.f72 [0] GG FI [O8] [] (by kernel_rfl) λs=>by simp only[FI,tm];kernel_rfl
def FM(a0:List qQ)(a1:List qQ):Option (Bool×Unit):=
 br (!((a0.length:Int)==(a1.length:Int))) (some (false,())) ((IM ((a1,(),a0,(a0.length:Int),0,()),(()),(()))).bind λe8=>Sum.elim (λe8_0=>some e8_0.1) (λ_=>some (true,())) e8)
def I4[dL] :=FH 72 Tryz.f72 [.ty (.ls (.st .server)),.ty (.ls (.st .server)),.fc 73] [.b] (λx=>FM x.1 x.2.1) [] [IP] (by kernel_rfl) λx=>by simp only[FM,tm];kernel_rfl
abbrev G5:LX:=⟨⟨[(1,.cl (.ro (.st .config))),(2,.cl (.fc 151)),(15,.cl (.ro (.st .config))),(16,.cl (.int .i64)),(17,.cl (.int .i64))],[],[],0,32⟩,[(.ret,⟨[(6,.cl (.bl))],[],[],0,32⟩),(.ext 0,⟨[X2],[],[],0,32⟩)],[],[1,2,15,16,17],[6]⟩
def FT(s: (List om×Unit×List om×Int×Int×Unit)×Unit×Unit):G5.R:=
 br (decide (s.1.2.2.2.2.1<s.1.2.2.2.1)) (iteP (0<=s.1.2.2.2.2.1) ((s.1.2.2.1[s.1.2.2.2.2.1.toNat]?).bind λx5=>iteP (0<=s.1.2.2.2.2.1) ((s.1.1[s.1.2.2.2.2.1.toNat]?).bind λx6=>(Gj x5 x6).bind λy7=>br (!y7.1) (some (.inr (.inl ((false,()),(()),(()))))) (some (.inl ((s.1.1,(),s.1.2.2.1,s.1.2.2.2.1,(IntKind.wrap .i64 (s.1.2.2.2.2.1+1)),()),(()),(()))))) none) none) (some (.inr (.inr (((),()),(()),(())))))
def Jx:=md FT
def JA[dL] :=HP Tryz.f153 [0] G5 FT [I2] [] (by kernel_rfl) λs=>by simp only[FT,tm];kernel_rfl
def F2(a0:List om)(a1:List om):Option (Bool×Unit):=
 br (!((a0.length:Int)==(a1.length:Int))) (some (false,())) ((Jx ((a1,(),a0,(a0.length:Int),0,()),(()),(()))).bind λe8=>Sum.elim (λe8_0=>some e8_0.1) (λ_=>some (true,())) e8)
def J2[dL] :=FH 153 Tryz.f153 [.ty (.ls (.st .config)),.ty (.ls (.st .config)),.fc 151] [.b] (λx=>F2 x.1 x.2.1) [] [JA] (by kernel_rfl) λx=>by simp only[F2,tm];kernel_rfl
def HB(a0:kB)(a1:kB):Option (Bool×Unit):=
 br (a0.activated==a1.activated) ((F2 a0.configs a1.configs).bind λy1=>some (y1.1,())) (some (false,()))
def P3[dL] :=FH 75 Tryz.f75 [.ty (.st .masterLog),.ty (.st .masterLog)] [.b] (λx=>HB x.1 x.2.1) [J2] [] (by kernel_rfl) λx=>by simp only[HB,tm];kernel_rfl
abbrev NH:LX:=⟨⟨[Q9,(1,.cl (.ro (.st .place))),Po,X7],[],[],0,26⟩,[(.ret,⟨[Sv],[],[],0,26⟩),(.ext 0,⟨[Qe],[],[],0,26⟩)],[],[0,1,12,13],[4]⟩
def Jd(s: (List vB×List vB×Int×Int×Unit)×Unit×Unit):NH.R:=
 br (decide (s.1.2.2.2.1<s.1.2.2.1)) (iteP (0<=s.1.2.2.2.1) ((s.1.1[s.1.2.2.2.1.toNat]?).bind λx5=>iteP (0<=s.1.2.2.2.1) ((s.1.2.1[s.1.2.2.2.1.toNat]?).bind λx6=>br (!((x5.rack==x6.rack)&&((x5.capacity==x6.capacity)&&((x5.load==x6.load)&&true)))) (some (.inr (.inl ((false,()),(()),(()))))) (some (.inl ((s.1.1,s.1.2.1,s.1.2.2.1,(IntKind.wrap .i64 (s.1.2.2.2.1+1)),()),(()),(()))))) none) none) (some (.inr (.inr (((),()),(()),(())))))
def QH:=md Jd
def QW[dL] :=HP Tryz.f76 [0] NH Jd [] [] (by kernel_rfl) λs=>by simp only[Jd,tm];kernel_rfl
def I0(a0:List vB)(a1:List vB):Option (Bool×Unit):=
 br (!((a0.length:Int)==(a1.length:Int))) (some (false,())) ((QH ((a0,a1,(a0.length:Int),0,()),(()),(()))).bind λe7=>Sum.elim (λe7_0=>some e7_0.1) (λ_=>some (true,())) e7)
def Sg[dL] :=FH 76 Tryz.f76 [.ty (.ls (.st .place)),.ty (.ls (.st .place))] [.b] (λx=>I0 x.1 x.2.1) [] [QW] (by kernel_rfl) λx=>by simp only[I0,tm];kernel_rfl
def Hu(a0:qN)(a1:qN):Option (Bool×Unit):=
 br (a0.now==a1.now) ((FM a0.servers a1.servers).bind λy1=>br y1.1 ((Iq a0.sides a1.sides).bind λy2=>br y2.1 ((HB a0.master a1.master).bind λy3=>br y3.1 (br (a0.masterUp==a1.masterUp) (br ((a0.lease.epoch==a1.lease.epoch)&&((a0.lease.holder==a1.lease.holder)&&((a0.lease.ends==a1.lease.ends)&&true))) ((I0 a0.places a1.places).bind λy4=>some (y4.1,())) (some (false,()))) (some (false,()))) (some (false,()))) (some (false,()))) (some (false,()))) (some (false,()))
def Rp[dL] :=FH 11 Tryz.f11 [.ty (.st .cluster),.ty (.st .cluster)] [.b] (λx=>Hu x.1 x.2.1) [I4,Qc,P3,Sg] [] (by kernel_rfl) λx=>by simp only[Hu,tm];kernel_rfl
def Hg(a0:qN)(a1:Int):Option (Int×Unit):=
 (Gq a0 a1).bind λy1=>br (!y1.1) (some (0,())) (iteP (0<=a1) ((a0.servers[a1.toNat]?).bind λx2=>iteP (0<=a1) ((a0.servers[a1.toNat]?).bind λx3=>some ((IntKind.wrap .i64 ((x2.log.length:Int)-x3.commit)),())) none) none)
def RZ[dL] :=FH 47 Tryz.f47 LD KB (λx=>Hg x.1 x.2.1) [Ld] [] (by kernel_rfl) λx=>by simp only[Hg,tm];kernel_rfl
def IX(a0:qN)(a1:Int):Option (Int×Unit):=
 (Gx a0 a1).bind λy1=>br (!y1.1) (some (0,())) (iteP (0<=a1) ((a0.servers[a1.toNat]?).bind λx2=>iteP (0<=a1) ((a0.servers[a1.toNat]?).bind λx3=>some ((IntKind.wrap .i64 ((x2.log.length:Int)-x3.commit)),())) none) none)
def R7[dL] :=FH 48 Tryz.f48 LD KB (λx=>IX x.1 x.2.1) [Kv] [] (by kernel_rfl) λx=>by simp only[IX,tm];kernel_rfl
abbrev N5:LX:=⟨⟨[MZ,Ms,(18,.cl (.own 0 (.i .i64))),(19,.cl (.int .i64)),(20,.cl (.int .i64))],[JP],Ia,0,34⟩,[(.ext 0,⟨[Ms],[],[],0,34⟩)],[],[2,5,18,19,20],[5]⟩
def Ho(s: (Unit×Int×Unit×Int×Int×Unit)×(M1×Unit)×List Int×Unit):N5.R:=
 br (decide (s.1.2.2.2.2.1<s.1.2.2.2.1)) (iteP (0<=s.1.2.2.2.2.1/\s.1.2.2.2.2.1< (s.2.2.1.length:Int)) ((s.2.2.1[s.1.2.2.2.2.1.toNat]?).bind λx18=>iteP (0<=x18) ((s.2.1.1.2.1[x18.toNat]?).bind λx19=>some (.inl (((),(if x19.version<s.1.2.1 then x19.version else s.1.2.1),(),s.1.2.2.2.1,(IntKind.wrap .i64 (s.1.2.2.2.2.1+1)),()),s.2))) none) none) (some (.inr ((s.1.2.1,()),(()),(()))))
def N0:=md Ho
def RA[dL] :=HP Tryz.f49 [0] N5 Ho [] [] (by kernel_rfl) λs=>by simp only[Ho,tm];kernel_rfl
def IE(a0:qN)(a1:Int):Option (Int×Unit):=
 (Gq a0 a1).bind λy1=>br (!y1.1) (some (0,())) (iteP (0<=a1) ((a0.servers[a1.toNat]?).bind λx2=>(Ic x2.config).bind λy3=>(N0 (((),2,(),(y3.1.length:Int),0,()),((a0.now,a0.servers,a0.sides,a0.master.configs,a0.master.activated,a0.masterUp,a0.lease.epoch,a0.lease.holder,a0.lease.ends,a0.places,()),()),y3.1,())).bind λe20=>some e20.1) none)
def S6[dL] :=FH 49 Tryz.f49 LD KB (λx=>IE x.1 x.2.1) [Ld,Ox] [RA] (by kernel_rfl) λx=>by simp only[IE,tm];kernel_rfl
abbrev Ny:LX:=⟨⟨[Pb,X5,Ms],[],[],0,30⟩,[(.ext 0,⟨[Ms],[],[],0,30⟩)],[],[0,1,5],[5]⟩
def GI(s:ZE×Unit×Unit):Ny.R:=
 br (decide (s.1.2.2.1< (s.1.1.length:Int))) (br (decide (s.1.2.2.1< (s.1.2.1.length:Int))) (iteP (0<=s.1.2.2.1) ((s.1.1[s.1.2.2.1.toNat]?).bind λx4=>iteP (0<=s.1.2.2.1) ((s.1.2.1[s.1.2.2.1.toNat]?).bind λx5=>br ((x4.epoch==x5.epoch)&&((x4.op.client==x5.op.client)&&((x4.op.seq==x5.op.seq)&&((x4.op.kind==x5.op.kind)&&((x4.op.object==x5.op.object)&&((x4.op.old==x5.op.old)&&((x4.op.value==x5.op.value)&&true))))))) (some (.inl ((s.1.1,s.1.2.1,(IntKind.wrap .i64 (s.1.2.2.1+1)),()),(()),(())))) (some (.inr (s.1.2.2,(()),(()))))) none) none) (some (.inr (s.1.2.2,(()),(()))))) (some (.inr (s.1.2.2,(()),(()))))
def KU:=md GI
def QN[dL] :=HP Tryz.f96 [0] Ny GI [] [] (by kernel_rfl) λs=>by simp only[GI,tm];kernel_rfl
def HW(a0:List sf)(a1:List sf):Option (Int×Unit):=
 (KU ((a0,a1,0,()),(()),(()))).bind λe6=>some e6.1
def RV[dL] :=FH 96 Tryz.f96 Ww KB (λx=>HW x.1 x.2.1) [] [QN] (by kernel_rfl) λx=>by simp only[HW,tm];kernel_rfl
def KJ(a0:List sf)(a1:List sf):Option (Bool×Unit):=
 (HW a0 a1).bind λy1=>some ((y1.1==(a0.length:Int)),())
def VI[dL] :=FH 24 Tryz.f24 Ww [.b] (λx=>KJ x.1 x.2.1) [RV] [] (by kernel_rfl) λx=>by simp only[KJ,tm];kernel_rfl
def Hj[dL](a0:Hd):Option (qN×Int×Int×Unit):=
 (L4 a0).bind λy1=>(Fj y1.1 6).bind λy2=>iteP (y2.1.length=y1.1.length) (some (y1.2.1,y1.2.2.1,y2.2.1,())) none
def PE[dL] :=FH 52 Tryz.f52 [.ty (.h)] [.st .cluster,.i .i64,.i .i64] (λx=>Hj x.1) [TG,F5] [] (by kernel_rfl) λx=>by simp only[Hj,tm,-eq_self];kernel_rfl
abbrev MD:LX:=⟨⟨[(0,.cl (.hd)),MH,X8,(9,.cl (.ptr 1 0)),Zw,TL],[To,[.bl,.bl,.int .i64,.int .i64,.int .i64,.int .i64,.row 1 6 1,.row 1 7 1,.int .i64,.row 1 9 7,.int .i64,.row 1 11 7]],Vh,0,153⟩,[(.ret,⟨[(0,.cl (.hd)),Qj,MH,X8],[Tp],Vi,0,153⟩),(.ext 0,⟨[(0,.cl (.hd)),Pa,MH,X8],[Tp],Vi,0,153⟩)],[],[0,4,5,9,10,11],[0,2,4,5]⟩
def Il(s: (Hd×Int×Unit×Unit×Unit×Int×Unit)×(LF×(Bool×Bool×Int×Int×Int×Int×(Nat×Nat×Nat)×(Nat×Nat×Nat)×Int×(Nat×Nat×Nat)×Int×(Nat×Nat×Nat)×Unit)×Unit)×List Int×List qQ×List Int×List om×List vB×Unit):MD.R:=
 br (decide (s.1.2.2.2.2.2.1< (s.2.2.1.length:Int))) (iteP (0<=s.1.2.2.2.2.2.1/\s.1.2.2.2.2.2.1< (s.2.2.1.length:Int)) ((s.2.2.1[s.1.2.2.2.2.2.1.toNat]?).bind λx40=>iteP (0<=x40/\x40< (s.2.2.2.1.length:Int)) ((s.2.2.2.1[x40.toNat]?).bind λx41=>br (!(x41.commit==((s.2.1.2.1.2.2.2.2.2.2.2.2.2.1.2.2:Nat):Int))) (some (.inr (.inl ((s.1.1,false,s.1.2.1,(),()),(s.2.1.1,()),s.2.2.2)))) (br (!((IntKind.wrap .i64 (x41.first+((x41.log.length:Nat):Int)))==((s.2.1.2.1.2.2.2.2.2.2.2.2.2.1.2.2:Nat):Int))) (some (.inr (.inl ((s.1.1,false,s.1.2.1,(),()),(s.2.1.1,()),s.2.2.2)))) (iteP (0<=x41.first/\x41.first<=((s.2.1.2.1.2.2.2.2.2.2.2.2.2.1.2.2:Nat):Int)/\((s.2.1.2.1.2.2.2.2.2.2.2.2.2.1.2.2:Nat):Int)<=((s.2.1.2.1.2.2.2.2.2.2.2.2.2.1.2.2:Nat):Int)) ((s.2.2.2.1[x40.toNat]?).bind λx42=>iteP (0+x41.log.length<=x42.log.length) ((s.2.2.2.1[s.2.1.2.1.2.2.2.2.2.2.2.2.2.1.1]?).bind λx43=>iteP ((s.2.1.2.1.2.2.2.2.2.2.2.2.2.1.2.1+x41.first.toNat)+(((s.2.1.2.1.2.2.2.2.2.2.2.2.2.1.2.2:Nat):Int).toNat-x41.first.toNat)<=x43.log.length) ((KJ ((x42.log.drop 0).take x41.log.length) ((x43.log.drop (s.2.1.2.1.2.2.2.2.2.2.2.2.2.1.2.1+x41.first.toNat)).take (((s.2.1.2.1.2.2.2.2.2.2.2.2.2.1.2.2:Nat):Int).toNat-x41.first.toNat))).bind λy44=>br (!y44.1) (some (.inr (.inl ((s.1.1,false,s.1.2.1,(),()),(s.2.1.1,()),s.2.2.2)))) (some (.inl ((s.1.1,s.1.2.1,(),(),(),(IntKind.wrap .i64 (s.1.2.2.2.2.2.1+1)),()),s.2)))) none) none) none))) none) none) (some (.inr (.inr ((s.1.1,(),s.1.2.1,(),()),(s.2.1.1,()),s.2.2.2))))
def PI:=md Il
def PT[dL] :=HP Tryz.f6 [0] MD Il [VI] [] (by kernel_rfl) λs=>by simp only[Il,tm];kernel_rfl
def JG[dL](a0:Hd):Option (Bool×Unit):=
 (XC a0).bind λy1=>br y1.1 (some (true,())) ((G0 a0).bind λy2=>(Ht y2.1 y2.2.1).bind λy3=>(FF y2.1 y2.2.1).bind λy4=>br (!(y3.2.1==y4.2.1)) (some (false,())) ((Hu y3.1 y4.1).bind λy5=>br (!y5.1) (some (false,())) ((Hg y2.1 y2.2.1).bind λy6=>(IX y2.1 y2.2.1).bind λy7=>br (!(y6.1==y7.1)) (some (false,())) ((IE y2.1 y2.2.1).bind λy8=>(GN y2.1 y2.2.1).bind λy9=>br (!(y8.1==y9.1)) (some (false,())) (br (!y3.2.1) (some (true,())) (iteP (0<=y2.2.1/\y2.2.1< (y3.1.servers.length:Int)) ((y3.1.servers[y2.2.1.toNat]?).bind λx10=>(y3.1.servers[y2.2.1.toNat]?).bind λx11=>iteP (0+x10.config.replicas.length<=x11.config.replicas.length) ((y3.1.servers[y2.2.1.toNat]?).bind λx12=>iteP (0+x10.config.witnesses.length<=x12.config.witnesses.length) ((Ic (⟨x10.config.epoch,x10.config.primary,((x11.config.replicas.drop 0).take x10.config.replicas.length),((x12.config.witnesses.drop 0).take x10.config.witnesses.length)⟩:om)).bind λy13=>(PI ((a0,y2.2.1,(),(),(),0,()),((y3.1.now,(),(),(),y3.1.master.activated,y3.1.masterUp,y3.1.lease.epoch,y3.1.lease.holder,y3.1.lease.ends,(),()),(x10.up,x10.intact,x10.version,x10.epoch,x10.config.epoch,x10.config.primary,(y2.2.1.toNat,0,x10.config.replicas.length),(y2.2.1.toNat,0,x10.config.witnesses.length),x10.first,(y2.2.1.toNat,0,x10.log.length),x10.commit,(y2.2.1.toNat,0,x10.learned.length),()),()),y13.1,y3.1.servers,y3.1.sides,y3.1.master.configs,y3.1.places,())).bind λe45=>Sum.elim (λe45_0=>some (e45_0.1.2.1,())) (λe45_1=>(Hj e45_1.1.1).bind λy46=>(Gc y46.1 y46.2.1 y46.2.2.1).bind λy47=>(FB y46.1 y46.2.1 y46.2.2.1).bind λy48=>br (y47.2.1==y48.2.1) ((Hu y47.1 y48.1).bind λy49=>br y49.1 ((Hg (⟨e45_1.2.1.1.1,e45_1.2.2.1,e45_1.2.2.2.1,(⟨e45_1.2.2.2.2.1,e45_1.2.1.1.2.2.2.2.1⟩:kB),e45_1.2.1.1.2.2.2.2.2.1,(⟨e45_1.2.1.1.2.2.2.2.2.2.1,e45_1.2.1.1.2.2.2.2.2.2.2.1,e45_1.2.1.1.2.2.2.2.2.2.2.2.1⟩:vz),e45_1.2.2.2.2.2.1⟩:qN) e45_1.1.2.2.1).bind λy50=>some ((y50.1==0),())) (some (false,()))) (some (false,()))) e45) none) none) none))))))
def Rv[dL] :=FH 6 Tryz.f6 [.ty (.h)] [.b] (λx=>JG x.1) [aay,O9,Rm,LA,Rp,RZ,R7,S6,Ph,Ox,PE,Oy,OA] [PT] (by kernel_rfl) λx=>by simp only[JG,tm];kernel_rfl
end
end Go.Proofs.YtkghndikalnipabGreat.En
