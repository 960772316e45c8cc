/- Printed by a program: the walk. -/
import Derived.Test.YtkghndikalnipabGreatZTh
set_option linter.unusedSimpArgs false
set_option linter.unusedVariables false
namespace Go.Proofs.YtkghndikalnipabGreat.En
open Go
abbrev EI:=@Int.natCast_nonneg
abbrev EJ:=@Int.ofNat_lt
abbrev EK:=@Int.lt_irrefl
abbrev EL:=@List.length_set
abbrev EM:=@List.take_length
abbrev EN:=@List.take_add_one
abbrev EO:=@List.pairwise_iff_getElem
abbrev EP:=@List.filter_append
abbrev ES:=@Nat.le_succ_of_le
abbrev ET:=@Sum.elim_inr
abbrev EU:=@Nat.le_of_eq
abbrev EV:=@List.pairwise_cons
abbrev EW:=@Nat.sub_zero
abbrev EX:=@List.mem_filter
abbrev EY:=@Sum.elim_inl
abbrev EZ:=@List.pairwise_singleton
abbrev E0:=@Bool.and_false
abbrev Fa:=@List.length_filter_le
abbrev Fb:=@List.pairwise_append
abbrev Fc:=@Int.toNat_zero
abbrev Fd:=@List.getElem_take
abbrev Fe:=@Bool.false_and
noncomputable section
abbrev Kz:List Ty:=[.i .i64]
abbrev Lt:List Ty:=[.ls (.i .i64)]
abbrev N9:List Ty:=[.st .cluster,.i .i64]
abbrev VD:List Ty:=[.ls (.st .entry)]
abbrev WP:List Ty:=[.st .reply]
abbrev XN:List Ty:=[.st .cluster]
abbrev XO:List Ty:=[.st .config,.b]
abbrev YB:List Ty:=[.st .config]
abbrev YC:List Ty:=[.st .machine]
abbrev ZI:List Ty:=[.st .masterLog]
abbrev XM:List Ty:=[.ls (.st .entry),.b]
abbrev Zj:List Ty:=[.st .machine,.st .result,.b]
abbrev Zk:List Ty:=[.i .i64,.ls (.st .entry)]
abbrev Zl:List Ty:=[.st .cluster,.st .reply]
abbrev LU:List ju:=[.ty (.st .cluster),.ty (.i .i64)]
abbrev Qf:List ju:=[.ty (.ls (.st .entry))]
abbrev RG:List ju:=[.ty (.st .cluster),.ty (.i .i64),.ty (.i .i64)]
abbrev Sr:List ju:=[.ty (.i .i64)]
abbrev TH:List ju:=[.ty (.st .cluster)]
abbrev TJ:List ju:=[.ty (.st .server),.ty (.i .i64)]
abbrev UG:List ju:=[.ty (.ls (.i .i64)),.ty (.ls (.i .i64))]
abbrev VA:List ju:=[.ty (.ls (.i .i64))]
abbrev WO:List ju:=[.ty (.st .config)]
abbrev XC:List ju:=[.ty (.st .server)]
abbrev UE:List ju:=[.ty (.st .masterLog)]
abbrev UF:List ju:=[.ty (.ls (.i .i64)),.ty (.i .i64)]
abbrev V7:List ju:=[.ty (.st .op)]
abbrev V8:List ju:=[.ty (.st .machine)]
abbrev V9:List ju:=[.ty (.st .machine),.ty (.i .i64)]
abbrev Xw:List ju:=[.ty (.i .i64),.ty (.i .i64),.ty (.i .i64)]
abbrev Xx:List ju:=[.ty (.ls (.st .place))]
abbrev Xy:List ju:=[.ty (.st .lease)]
abbrev Xz:List ju:=[.ty (.st .masterLog),.ty (.i .i64)]
abbrev XA:List ju:=[.ty (.ls (.st .entry)),.ty (.i .i64)]
abbrev XB:List ju:=[.ty (.st .cluster),.ty (.i .i64),.ty (.i .i64),.ty (.i .i64)]
abbrev YR:List ju:=[.ty (.st .config),.ty (.st .config)]
abbrev YS:List ju:=[.ty (.st .config),.ty (.i .i64)]
abbrev YT:List ju:=[.ty (.ls (.st .entry)),.ty (.i .i64),.ty (.i .i64)]
abbrev YU:List ju:=[.ty (.st .machine),.ty (.st .op)]
abbrev YV:List ju:=[.ty (.st .cluster),.ty (.i .i64),.ty (.st .op)]
abbrev YW:List ju:=[.ty (.ls (.i .i64)),.ty (.i .i64),.ty (.i .i64)]
abbrev YX:List ju:=[.ty (.st .lease),.ty (.i .i64),.ty (.i .i64),.ty (.i .i64)]
abbrev YY:List ju:=[.ty (.i .i64),.ty (.ls (.st .entry))]
abbrev YZ:List ju:=[.ty (.st .cluster),.ty (.st .event)]
abbrev Y0:List ju:=[.ty (.ls (.i .i64)),.fc 207]
abbrev Y1:List ju:=[.ty (.i .i64),.ty (.i .i64)]
abbrev Y2:List ju:=[.ty (.ls (.st .place)),.fc 209]
abbrev Y3:List ju:=[.ty (.ls (.i .i64)),.fc 234]
abbrev Ns:Type:=(Int×Unit×Unit×Unit×Int×Int×Int×Int×Int×Unit×Unit)
abbrev N8:Type:=(Int×List qQ×List Int×List om×Int×Int×Int×Int×Int×List vB×Unit)
abbrev TK:Type:=(Unit×Int×Unit)
abbrev TL:Type:=(Unit×Unit×Unit)
abbrev TM:Type:=(Int×Int×Unit×Unit×Unit)
abbrev VB:Type:=(Unit×Unit×Int×Unit)
abbrev Yy:Type:=(Unit×Unit×Unit×Int×Unit)
abbrev Yz:Type:=(List Int×List nY×Unit)
abbrev YA:Type:=(Bool×Int×Unit)
abbrev ZH:Type:=(List om×Int×Unit)
abbrev XJ:Type:=(List Int×List Int×Unit×Int×Unit)
abbrev XK:Type:=(Int×Unit×Unit×Unit×Bool×Int×Unit)
abbrev XL:Type:=(Unit×Unit×Unit×Unit×Unit×Unit×Int×Unit)
abbrev Y8:Type:=(List Int×Int×Unit)
abbrev Y9:Type:=(List Int×Int×Int×Unit)
abbrev Za:Type:=(List sf×Int×Unit)
abbrev Zb:Type:=(Int×Int×Bool×Int×Unit)
abbrev Zc:Type:=(Unit×Unit×Unit×Unit×Bool×Unit×Int×Unit)
abbrev Zd:Type:=(Int×Int×Int×Int×Int×Int×Unit)
abbrev Ze:Type:=(List Int×Unit×Int×Unit)
abbrev Zf:Type:=(Unit×Int×Unit×Int×Unit)
abbrev Zg:Type:=(Bool×Bool×Int×Int×Int×Int×List Int×List Int×Int×List sf×Int×List sf×Unit)
abbrev Zh:Type:=(List Int×Unit×Int×Int×Unit)
abbrev Zi:Type:=(List Int×List Int×Int×Int×Unit)
abbrev J9:Nat×mu:=(1,.cl (.ptr 0 0))
abbrev K7:Nat×mu:=(1,.cl (.int .i64))
abbrev M2:Nat×mu:=(4,.cl (.int .i64))
abbrev Nr:Nat×mu:=(5,.cl (.int .i64))
abbrev NI:Nat×mu:=(0,.cl (.ro (.i .i64)))
abbrev N6:Nat×mu:=(3,.cl (.int .i64))
abbrev N7:Nat×mu:=(2,.cl (.ptr 0 0))
abbrev OD:Nat×mu:=(2,.cl (.dead))
abbrev Pd:Nat×mu:=(7,.cl (.int .i64))
abbrev PO:Nat×mu:=(2,.cl (.bl))
abbrev Mg:Nat×mu:=(6,.cl (.int .i64))
abbrev Mh:Nat×mu:=(0,.cl (.ro (.st .entry)))
abbrev MZ:Nat×mu:=(5,.cl (.own 0 (.i .i64)))
abbrev M1:Nat×mu:=(4,.cl (.ptr 0 0))
abbrev ND:Nat×mu:=(6,.cl (.ptr 1 0))
abbrev N4:Nat×mu:=(2,.cl (.ptr 1 0))
abbrev N5:Nat×mu:=(0,.cl (.own 0 (.i .i64)))
abbrev OT:Nat×mu:=(4,.cl (.ptr 1 0))
abbrev PI:Nat×mu:=(1,.cl (.ro (.i .i64)))
abbrev PJ:Nat×mu:=(2,.cl (.int .i64))
abbrev PK:Nat×mu:=(3,.cl (.ptr 0 0))
abbrev PL:Nat×mu:=(12,.cl (.int .i64))
abbrev PN:Nat×mu:=(8,.cl (.int .i64))
abbrev Qz:Nat×mu:=(4,.cl (.dead))
abbrev QA:Nat×mu:=(9,.cl (.bl))
abbrev QB:Nat×mu:=(3,.cl (.own 0 (.i .i64)))
abbrev QC:Nat×mu:=(4,.cl (.ptr 2 0))
abbrev QD:Nat×mu:=(5,.cl (.ptr 3 0))
abbrev RH:Nat×mu:=(0,.cl (.pt 0 3))
abbrev RI:Nat×mu:=(0,.cl (.ro (.st .place)))
abbrev RJ:Nat×mu:=(7,.cl (.own 0 (.st .entry)))
abbrev RK:Nat×mu:=(9,.cl (.own 1 (.i .i64)))
abbrev SN:Nat×mu:=(3,.cl (.ptr 1 0))
abbrev UH:Nat×mu:=(4,.cl (.bl))
abbrev UI:Nat×mu:=(7,.cl (.ptr 3 0))
abbrev UJ:Nat×mu:=(8,.cl (.bl))
abbrev UK:Nat×mu:=(7,.cl (.bl))
abbrev UL:Nat×mu:=(10,.cl (.int .i64))
abbrev Wa:Nat×mu:=(5,.cl (.ptr 2 0))
abbrev Wb:Nat×mu:=(11,.cl (.ptr 4 0))
abbrev Wc:Nat×mu:=(8,.cl (.own 0 (.i .i64)))
abbrev Wd:Nat×mu:=(6,.cl (.own 0 (.st .entry)))
abbrev We:Nat×mu:=(3,.cl (.str))
abbrev Wf:Nat×mu:=(3,.cl (.own 1 (.i .i64)))
abbrev Wg:Nat×mu:=(3,.cl (.own 1 (.st .entry)))
abbrev XD:Nat×mu:=(3,.cl (.ptr 2 0))
abbrev XE:Nat×mu:=(5,.cl (.dead))
abbrev XF:Nat×mu:=(7,.cl (.own 0 (.i .i64)))
abbrev XG:Nat×mu:=(9,.cl (.own 0 (.i .i64)))
abbrev XH:Nat×mu:=(11,.cl (.int .i64))
abbrev XI:Nat×mu:=(8,.cl (.ptr 1 0))
abbrev Y4:Nat×mu:=(3,.cl (.own 1 (.st .place)))
abbrev Y5:Nat×mu:=(5,.cl (.own 1 (.st .event)))
abbrev Y6:Nat×mu:=(11,.cl (.own 1 (.i .i64)))
abbrev Y7:Nat×mu:=(7,.cl (.own 0 (.st .reply)))
abbrev Ir:List Ty:=[.i .i64]
abbrev UR:List Ty:=[.i .i64,.st .session]
abbrev VH:List Ty:=[.st .entry,.i .i64,.st .server,.i .i64,.st .config,.st .place,.i .i64,.i .i64]
abbrev XP:List Ty:=[.st .server,.i .i64,.st .config,.st .place]
abbrev YD:List Ty:=[.i .i64,.st .server,.i .i64,.st .config,.st .place]
abbrev YE:List Ty:=[.st .cur,.i .i64]
abbrev YF:List Ty:=[.st .cur,.st .entry]
abbrev ZJ:List Ty:=[.i .i64,.i .i64]
abbrev ZK:List Ty:=[.st .entry,.i .i64,.i .i64]
abbrev Z8:List Ty:=[.st .server,.i .i64,.st .place]
abbrev Zu:List Ty:=[.i .i64,.i .i64,.i .i64,.i .i64]
abbrev Zv:List Ty:=[.i .i64,.i .i64,.i .i64]
abbrev Zw:List Ty:=[.st .reply,.st .server,.i .i64,.st .config,.st .place]
abbrev K8:List Sh:=[.int .i64,.ro (.st .server),.ro (.i .i64),.ro (.st .config),.int .i64,.int .i64,.int .i64,.int .i64,.int .i64,.ro (.st .place)]
abbrev M3:List Sh:=[.int .i64,.em,.em,.em,.int .i64,.int .i64,.int .i64,.int .i64,.int .i64,.em]
abbrev TN:List Sh:=[.int .i64,.own 2 (.st .server),.own 3 (.i .i64),.own 4 (.st .config),.int .i64,.int .i64,.int .i64,.int .i64,.int .i64,.own 5 (.st .place)]
abbrev UN:List Sh:=[.ro (.i .i64),.ro (.st .session)]
abbrev UO:List Sh:=[.em,.em]
abbrev UP:List Sh:=[.bl,.int .i64]
abbrev UQ:List Sh:=[.own 0 (.i .i64),.own 1 (.st .session)]
abbrev VE:List Sh:=[.ro (.st .config),.int .i64]
abbrev VF:List Sh:=[.int .i64,.own 0 (.st .server),.own 1 (.i .i64),.own 2 (.st .config),.int .i64,.int .i64,.int .i64,.int .i64,.int .i64,.own 3 (.st .place)]
abbrev VG:List Sh:=[.int .i64,.int .i64,.own 6 (.i .i64),.own 7 (.i .i64)]
abbrev SO:List Sh:=[.int .i64,.int .i64,.bl,.int .i64]
abbrev SP:List Sh:=[.int .i64,.own 1 (.st .server),.own 2 (.i .i64),.own 3 (.st .config),.int .i64,.int .i64,.int .i64,.int .i64,.int .i64,.own 4 (.st .place)]
abbrev UM:List Sh:=[.int .i64,.int .i64,.own 1 (.i .i64),.own 2 (.i .i64)]
abbrev Wh:List Sh:=[.em,.int .i64]
abbrev Wi:List Sh:=[.int .i64,.int .i64,.int .i64,.int .i64,.int .i64,.int .i64]
abbrev Zm:List Sh:=[.int .i64,.own 0 (.st .server),.own 1 (.i .i64),.em,.int .i64,.int .i64,.int .i64,.int .i64,.int .i64,.own 2 (.st .place)]
abbrev Zn:List Sh:=[.own 0 (.st .config),.int .i64]
abbrev Zo:List Sh:=[.int .i64,.own 0 (.st .server),.ro (.i .i64),.ro (.st .config),.int .i64,.int .i64,.int .i64,.int .i64,.int .i64,.ro (.st .place)]
abbrev Zp:List Sh:=[.int .i64,.int .i64,.em,.em]
abbrev Zq:List Sh:=[.int .i64,.int .i64,.own 2 (.i .i64),.own 3 (.i .i64)]
abbrev Zr:List Sh:=[.bl,.bl,.int .i64,.int .i64,.int .i64,.int .i64,.ro (.i .i64),.ro (.i .i64),.int .i64,.ro (.st .entry),.int .i64,.ro (.st .entry)]
abbrev Zs:List Sh:=[.int .i64,.int .i64,.own 0 (.i .i64),.own 1 (.i .i64)]
abbrev Zt:List Sh:=[.own 1 (.st .config),.int .i64]
def sb0:ByteArray:=⟨⟨[0,1,2,2,3,3,3,3,4,4,4,4,4,4,4,4,5,5,5,5,5,5,5,5,5,5,5,5,5,5,5,5,6,6,6,6,6,6,6,6,6,6,6,6,6,6,6,6,6,6,6,6,6,6,6,6,6,6,6,6,6,6,6,6,7,7,7,7,7,7,7,7,7,7,7,7,7,7,7,7,7,7,7,7,7,7,7,7,7,7,7,7,7,7,7,7,7,7,7,7,7,7,7,7,7,7,7,7,7,7,7,7,7,7,7,7,7,7,7,7,7,7,7,7,7,7,7,7,8,8,8,8,8,8,8,8,8,8,8,8,8,8,8,8,8,8,8,8,8,8,8,8,8,8,8,8,8,8,8,8,8,8,8,8,8,8,8,8,8,8,8,8,8,8,8,8,8,8,8,8,8,8,8,8,8,8,8,8,8,8,8,8,8,8,8,8,8,8,8,8,8,8,8,8,8,8,8,8,8,8,8,8,8,8,8,8,8,8,8,8,8,8,8,8,8,8,8,8,8,8,8,8,8,8,8,8,8,8,8,8,8,8,8,8,8,8,8,8,8,8,8,8,8,8,8,8]⟩⟩
theorem Ie:Tryz.prog.follows .mixedOrders=true:=by kernel_rfl
abbrev Ib[dL] :=@EH _ _ EG Ie _
abbrev FB[dL] :=@Eu _ _ EG Ie _
abbrev coM[dL] :=@EB _ _ EG Ie _
abbrev coI[dL] :=@EA _ _ EG Ie _
abbrev coC[dL] :=@Ew _ _ EG Ie _
abbrev Q3[dL] :=@ED _ _ EG Ie _
abbrev coQ[dL] :=@EC _ _ EG Ie _
def Xd(a0:Hd):Option (Bool×Unit):=some (decide (1048576< (a0.n:Int)),())
section
open Go.RowKit
theorem W4(x:Hd)(w:World):Calls Tryz.prog 7 #[.slice x.a x.n x.c] w λe w'=>e= .returned (.bool (decide (1048576< (x.n:Int))))/\Below w.heap.size w w':=by
 have mixed:Tryz.prog.follows .mixedOrders=true:=Ie
 go_enter Tryz.func7,Tryz.ntmps7
 go_wp2
 go_ret
 exact⟨rfl,Below.refl _ _⟩
end
def Z5[dL] :=Ey (P:=Tryz.prog) 7 (by kernel_rfl) (CW Tryz.func7 (by kernel_rfl) rfl) [.ty .h] [.b] rfl rfl (λx=>Xd x.1) λx y h w=>by obtain rfl:=Option.some.inj h;exact W4 x.1 w
def Q5[dL](a0:Hd):Option (List qO×Unit):=(D7 a0).map λc=>([c],())
section
open Go.RowKit
set_option maxHeartbeats 4000000 in
set_option maxRecDepth 100000 in
theorem U3[dL](x:Hd)(c:qO)(hx:D7 x=some c)(w:World)(hB: ∀a v,dL.w.cell? a=some v->w.cell? a=some v):
  Calls Tryz.prog 56 #[.slice x.a x.n x.c] w λr w'=> ∃b cs e,r= .returned (.pointer (some ⟨b,0,none⟩))/\Below w.heap.size w w'/\w.heap.size<=b/\w'.heap[b]? =some (.cells cs e (0,0))/\cs.size=3/\jW cs 0 c:=by
 have mixed:Tryz.prog.follows .mixedOrders=true:=Ie;obtain⟨l,hl,rfl⟩:=aj.1 hx;obtain⟨hlen,hg⟩:=B4 hl
 have hg2: ∀ (k:Nat) m,l[k]? =some m-> ∃ad,x.a=some ad/\w.cell? (ad.add k)=some (.int .u8 m):=λk m hk=>by obtain⟨ad,h1,h2⟩:=hg k m hk;exact⟨ad,h1,hB _ _ h2⟩
 clear hg hB hl hx;obtain⟨a,n,cp⟩:=x;simp only at hlen hg2 ⊢;obtain⟨h0,hh0⟩: ∃h0,h0=wrap64 (10101+(n:Int)):=⟨_,rfl⟩
 rw[<-hh0];obtain⟨hf,hhf⟩: ∃hf,hf=(l.take 4000).foldl Ea h0:=⟨_,rfl⟩
 rw[<-hhf]
 go_enter Tryz.func56,Tryz.ntmps56
 go_wp2
 rw[<-hh0]
 go_loop [3,4] (λh i=> ∃k:Nat,k<=n/\k<=4000/\i= .int .i64 k/\h= .int .i64 ((l.take k).foldl Ea h0)) (λ_ i=>n-(intOf i).toNat)
 case atStart=>exact⟨0,bH _,bH _,rfl,by rw[dE,List.foldl_nil]⟩
 case round=>
  obtain⟨k,hk,hk4,rfl,rfl⟩:=hrel;clear hh0;by_cases h1:k<n
  ·by_cases h2:k<4000
   ·have hgk:l[k]? =some l[k] :=an (by omega);obtain⟨ad,rfl,hc⟩:=hg2 k _ hgk
    have hnext: (l.take (k+1)).foldl Ea h0=Ea ((l.take k).foldl Ea h0) l[k] :=by rw[EN,hgk,List.foldl_append,Option.toList_some,List.foldl_cons,List.foldl_nil]
    generalize l[k] =m at hc hnext hgk;clear hg2
    go_wp2
    refine⟨⟨k+1,h1,h2,by rw[Int.natCast_succ],by rw[hnext];rfl⟩,?_⟩;simp only[intOf];omega
   ·have hk0:l.take 4000=l.take k:=by rw[show k=4000 by omega]
    clear hg2
    go_wp2
    go_ret
    rw[hk0] at hhf;subst hhf;exact⟨_,rfl,(Below.refl _ w).alloc (az _) _,az _,_,⟨_,iP w _⟩,rfl,rfl,rfl,rfl⟩
  ·have hk0:l.take 4000=l.take k:=by rw[bS (by omega),bS (by omega)]
   clear hg2
   go_wp2
   go_ret
   rw[hk0] at hhf;subst hhf;exact⟨_,rfl,(Below.refl _ w).alloc (az _) _,az _,_,⟨_,iP w _⟩,rfl,rfl,rfl,rfl⟩
end
def V3[dL] :=Em (P:=Tryz.prog) 56 (by kernel_rfl) (CW Tryz.func56 (by kernel_rfl) rfl) D7 U3
def MJ[dL](a0:List qO):Option (List qO×Int×Unit):=D6 DH a0
section
open Go.RowKit
set_option maxHeartbeats 4000000 in
set_option maxRecDepth 100000 in
theorem TZ[dL](c:qO)(y:qO×Int)(hy:DH c=some y)(w:World)(b O:Nat)(cs:Array Value)(e:TypeId)(hB: ∀a v,dL.w.cell? a=some v->w.cell? a=some v/\a.block≠b)(hb:w.heap[b]? =some (.cells cs e (0,0)))(hc:jW cs O c):
   Calls Tryz.prog 170 #[.pointer (some ⟨b,O,none⟩)] w λr w'=>r= .returned (.int .i64 y.2)/\w'.os=w.os/\w'.tape=w.tape/\w'.output=w.output/\w'.heap.size=w.heap.size/\(∀k,k≠b->w'.heap[k]? =w.heap[k]?)/\ ∃cs',w'.heap[b]? =some (.cells cs' e (0,0))/\cs'.size=cs.size/\jW cs' O y.1/\ ∀k,(k<O\/O+3<=k)->cs'[k]? =cs[k]? :=by
 have mixed:Tryz.prog.follows .mixedOrders=true:=Ie;have h0:w.cell? ⟨b,O,none⟩=some (.slice c.b.a c.b.n c.b.c):=by simp[World.cell?,hb,hc.1]
 have h1:w.cell? ⟨b,O+1,none⟩=some (.int .i64 c.i):=by simp[World.cell?,hb,hc.2.1]
 have h2:w.cell? ⟨b,O+2,none⟩=some (.int .i64 c.h):=by simp[World.cell?,hb,hc.2.2]
 have hf1:w.frozen? ⟨b,O+1,none⟩=false:=by simp[World.frozen?,hb]
 have hf2:w.frozen? ⟨b,O+2,none⟩=false:=by simp[World.frozen?,hb]
 unfold DH at hy;split at hy
 ·rename_i hi;split at hy
  ·rename_i hi0;obtain⟨m,hm,rfl⟩:=aj.1 hy;obtain⟨l,hl,hm⟩:=ah.1 hm;obtain⟨_,hg⟩:=B4 hl;obtain⟨ad,ha,hcell⟩:=hg _ _ hm;obtain⟨hc2,hne⟩:=hB _ _ hcell;rw[gV] at hne;clear hy hg hB hl;obtain⟨⟨a,n,cp⟩,i,h⟩:=c;simp only at hi hi0 ha h0 h1 h2 hc2 hm ⊢;subst ha;clear hm hcell;have hk: ∀v,(w.setCell ⟨b,O+2,none⟩ v).cell? (ad.add i.toNat)=some (.int .u8 m):=λv=>(World.cell?_setCell_other w _ _ v (λe=>hne (by rw[<-gV ad i.toNat,<-e]))).trans hc2
   go_enter Tryz.func170,Tryz.ntmps170
   go_wp2
   go_region
   go_wp2
   go_region
   go_wp2
   go_region
   go_wp2
   go_ret
   exact⟨rfl,rfl,rfl,rfl,DI hb hc (.inl rfl)⟩
  ·cases hy
 ·rename_i hi;obtain rfl:=Option.some.inj hy;obtain⟨⟨a,n,cp⟩,i,h⟩:=c;simp only at hi h0 h1 h2 ⊢;clear hy hB
  go_enter Tryz.func170,Tryz.ntmps170
  go_wp2
  go_region
  go_wp2
  go_region
  go_wp2
  go_ret
  exact⟨rfl,rfl,rfl,rfl,DI hb hc (.inr ⟨rfl,rfl⟩)⟩
end
def Xr[dL] :=Ep (P:=Tryz.prog) 170 (by kernel_rfl) (CW Tryz.func170 (by kernel_rfl) rfl) DH TZ
def Fh[dL](a0:List qO)(a1:Int):Option ((List qO)×Int×Unit):=
 br (decide (a1<=0)) (some (a0,0,())) (br (decide (a1<=256)) ((MJ a0).bind λy1=>iteP (y1.1.length=a0.length) (iteP (a1=0) none (some (y1.1,(Int.tmod y1.2.1 a1),()))) none) ((MJ a0).bind λy2=>iteP (y2.1.length=a0.length) ((MJ y2.1).bind λy3=>iteP (y3.1.length=y2.1.length) ((MJ y3.1).bind λy4=>iteP (y4.1.length=y3.1.length) ((MJ y4.1).bind λy5=>iteP (y5.1.length=y4.1.length) (iteP (a1=0) none (some (y5.1,(Int.tmod (IntKind.wrap .i64 ((IntKind.wrap .i64 ((IntKind.wrap .i64 ((IntKind.wrap .i64 (y2.2.1*16777216))+(IntKind.wrap .i64 (y3.2.1*65536))))+(IntKind.wrap .i64 (y4.2.1*256))))+y5.2.1)) a1),()))) none) none) none) none))
def FQ[dL] :=Q3 88 Tryz.f88 (.st .cur) Sr Kz (λl x=>Fh l x.1) [Xr] [] (by kernel_rfl) λl x=>by simp only[Fh,tm,-eq_self];kernel_rfl
abbrev PU:LX:=⟨⟨[RH,Y4,M2],[],[.st .cur,.st .place],1,22⟩,[(.ext 0,⟨[Y4],[],[.st .cur,.st .place],1,22⟩)],[],[0,3,4],[3]⟩
def Lh[dL](s:VB×Unit×List qO×List vB×Unit):PU.R:=
 br (decide (s.1.2.2.1<5)) ((Fh s.2.2.1 4).bind λy4=>iteP (y4.1.length=s.2.2.1.length) ((Fh y4.1 4).bind λy5=>iteP (y5.1.length=y4.1.length) ((Fh y5.1 4).bind λy6=>iteP (y6.1.length=y5.1.length) (iteP ((s.2.2.2.1++([(⟨y4.2.1,(IntKind.wrap .i64 (1+y5.2.1)),y6.2.1⟩:vB)]:List vB)).length*24<=2 ^ 40) (some (.inl (((),(),(IntKind.wrap .i64 (s.1.2.2.1+1)),()),(()),y6.1,(s.2.2.2.1++([(⟨y4.2.1,(IntKind.wrap .i64 (1+y5.2.1)),y6.2.1⟩:vB)]:List vB)),()))) none) none) none) none) (some (.inr (((),()),(()),s.2.2)))
def TG[dL] :=md Lh
def TX[dL] :=Ib Tryz.f218 [0] PU Lh [FQ] [] (by kernel_rfl) λs=>by simp only[Lh,tm,-eq_self];kernel_rfl
def Kr[dL](a0:List qO):Option ((List qO)×(List vB)×Unit):=
 (TG (((),(),0,()),(()),a0,([]:List vB),())).bind λe7=>some e7.2.2
def Rx[dL] :=Q3 218 Tryz.f218 (.st .cur) [] [.ls (.st .place)] (λl _=>Kr l) [] [TX] (by kernel_rfl) λl x=>by simp only[Kr,tm];kernel_rfl
def Fi(a0:Int)(a1:Int)(a2:Int):Option (Bool×Unit):=
 br (decide (a0≥a1)) (some ((decide (a0<=a2)),())) (some (false,()))
def FF[dL] :=FB 90 Tryz.f90 Xw [.b] (λx=>Fi x.1 x.2.1 x.2.2.1) [] [] (by kernel_rfl) λx=>by simp only[Fi,tm];kernel_rfl
abbrev OY:LX:=⟨⟨[RI,N6],[],[],0,38⟩,[(.ret,⟨[RI,PO],[],[],0,38⟩),(.ext 0,⟨[RI,OD],[],[],0,38⟩)],[],[0,3],[0,2]⟩
def Hx(s: (List vB×Int×Unit)×Unit×Unit):OY.R:=
 br (decide (s.1.2.1< (s.1.1.length:Int))) (iteP (0<=s.1.2.1) ((s.1.1[s.1.2.1.toNat]?).bind λx3=>(Fi x3.rack 0 9).bind λy4=>br (!y4.1) (some (.inr (.inl ((s.1.1,false,()),(()),(()))))) (iteP (0<=s.1.2.1) ((s.1.1[s.1.2.1.toNat]?).bind λx5=>(Fi x5.capacity 0 9).bind λy6=>br (!y6.1) (some (.inr (.inl ((s.1.1,false,()),(()),(()))))) (iteP (0<=s.1.2.1) ((s.1.1[s.1.2.1.toNat]?).bind λx7=>(Fi x7.load 0 99).bind λy8=>br (!y8.1) (some (.inr (.inl ((s.1.1,false,()),(()),(()))))) (some (.inl ((s.1.1,(IntKind.wrap .i64 (s.1.2.1+1)),()),(()),(()))))) none)) none)) none) (some (.inr (.inr ((s.1.1,(),()),(()),(())))))
def Mq:=md Hx
def Sy[dL] :=Ib Tryz.f160 [0] OY Hx [FF] [] (by kernel_rfl) λs=>by simp only[Hx,tm];kernel_rfl
def FI(a0:List vB):Option (Bool×Unit):=
 (Mq ((a0,0,()),(()),(()))).bind λe9=>Sum.elim (λe9_0=>some e9_0.1.2) (λe9_1=>some (((e9_1.1.1.length:Int)==5),())) e9
def K2[dL] :=FB 160 Tryz.f160 Xx [.b] (λx=>FI x.1) [] [Sy] (by kernel_rfl) λx=>by simp only[FI,tm];kernel_rfl
def JB(a0:Int):Option (qQ×Unit):=
 (Fi a0 1 2).bind λy1=>br (!y1.1) (some ((⟨true,true,1,0,(⟨0,0,([]:List Int),([]:List Int)⟩:om),0,([]:List sf),0,([]:List sf)⟩:qQ),())) (some ((⟨true,true,a0,0,(⟨0,0,([]:List Int),([]:List Int)⟩:om),0,([]:List sf),0,([]:List sf)⟩:qQ),()))
def Qu[dL] :=FB 236 Tryz.f236 Sr [.st .server] (λx=>JB x.1) [FF] [] (by kernel_rfl) λx=>by simp only[JB,tm];kernel_rfl
abbrev Of:LX:=⟨⟨[N7,SN,M2],[M3,Zm],Z8,0,25⟩,[(.ext 0,⟨[N7,SN],[M3,Zm],Z8,0,25⟩)],[.b 1 1 (.st .server)],[2,3,4],[2,3]⟩
def JH(s:VB×(Ns×Ns×Unit)×List qQ×List Int×List vB×Unit):Of.R:=
 br (decide (s.1.2.2.1<5)) ((JB 1).bind λy34=>iteP ((s.2.2.1++([y34.1]:List qQ)).length*152<=2 ^ 40) (some (.inl (((),(),(IntKind.wrap .i64 (s.1.2.2.1+1)),()),s.2.1,(s.2.2.1++([y34.1]:List qQ)),s.2.2.2))) none) (some (.inr (((),(),()),s.2)))
def RC:=md JH
def R0[dL] :=Ib Tryz.f217 [0] Of JH [Qu] [] (by kernel_rfl) λs=>by simp only[JH,tm];kernel_rfl
def JX(a0:List vB):Option (qN×Unit):=
 (FI a0).bind λy1=>br (!y1.1) (some ((⟨0,([]:List qQ),([]:List Int),(⟨([]:List om),0⟩:kB),0,(⟨0,0,0⟩:vz),([]:List vB)⟩:qN),())) (iteP (0<=(5:Int)/\(5:Int)=5/\5*((8:Nat):Int)<=2 ^ 40) (iteP ((([]:List vB)++a0).length*24<=2 ^ 40) ((RC (((),(),0,()),((0,(),(),(),0,0,0,0,0,(),()),(0,(),(),(),0,3,0,0,0,(),()),()),([]:List qQ),(List.replicate (5:Int).toNat (0:Int)),(([]:List vB)++a0),())).bind λe35=>some ((⟨e35.2.1.2.1.1,e35.2.2.1,e35.2.2.2.1,(⟨([]:List om),e35.2.1.2.1.2.2.2.2.1⟩:kB),e35.2.1.2.1.2.2.2.2.2.1,(⟨e35.2.1.2.1.2.2.2.2.2.2.1,e35.2.1.2.1.2.2.2.2.2.2.2.1,e35.2.1.2.1.2.2.2.2.2.2.2.2.1⟩:vz),e35.2.2.2.2.1⟩:qN),())) none) none)
def Tq[dL] :=FB 217 Tryz.f217 Xx XN (λx=>JX x.1) [K2] [R0] (by kernel_rfl) λx=>by simp only[JX,tm,-eq_self];kernel_rfl
def F8[dL](a0:List qO)(a1:Int):Option ((List qO)×Bool×Unit):=
 (Fh a0 a1).bind λy1=>iteP (y1.1.length=a0.length) (some (y1.1,(y1.2.1==0),())) none
def Ia[dL] :=Q3 84 Tryz.f84 (.st .cur) Sr [.b] (λl x=>F8 l x.1) [FQ] [] (by kernel_rfl) λl x=>by simp only[F8,tm,-eq_self];kernel_rfl
def Fo[dL](a0:List qO)(a1:List Int):Option ((List qO)×Int×Unit):=
 (Fh a0 (a1.length:Int)).bind λy1=>iteP (y1.1.length=a0.length) (iteP (0<=y1.2.1) ((a1[y1.2.1.toNat]?).bind λx2=>some (y1.1,x2,())) none) none
def Gb[dL] :=Q3 86 Tryz.f86 (.st .cur) VA Kz (λl x=>Fo l x.1) [FQ] [] (by kernel_rfl) λl x=>by simp only[Fo,tm,-eq_self];kernel_rfl
def Mj[dL](a0:List qO):Option ((List qO)×Op×Unit):=
 (Fh a0 3).bind λy1=>iteP (y1.1.length=a0.length) ((Fh y1.1 5).bind λy2=>iteP (y2.1.length=y1.1.length) ((Fh y2.1 3).bind λy3=>iteP (y3.1.length=y2.1.length) ((Fh y3.1 10).bind λy4=>iteP (y4.1.length=y3.1.length) ((F8 y4.1 3).bind λy5=>iteP (y5.1.length=y4.1.length) (br y5.2.1 ((Fo y5.1 ([0,0,1,5,9]:List Int)).bind λy6=>iteP (y6.1.length=y5.1.length) (some (y6.1,(⟨y1.2.1,(IntKind.wrap .i64 (1+y2.2.1)),2,y3.2.1,y6.2.1,y4.2.1⟩:Op),())) none) (some (y5.1,(⟨y1.2.1,(IntKind.wrap .i64 (1+y2.2.1)),1,y3.2.1,0,y4.2.1⟩:Op),()))) none) none) none) none) none
def TB[dL] :=Q3 169 Tryz.f169 (.st .cur) [] [.st .op] (λl _=>Mj l) [FQ,Ia,Gb] [] (by kernel_rfl) λl x=>by simp only[Mj,tm,-eq_self];kernel_rfl
def LJ[dL](a0:List qO):Option ((List qO)×xx×Unit):=
 (Fh a0 5).bind λy1=>iteP (y1.1.length=a0.length) ((Fh y1.1 24).bind λy2=>iteP (y2.1.length=y1.1.length) (br (y2.2.1==0) ((Fh y2.1 20).bind λy3=>iteP (y3.1.length=y2.1.length) (some (y3.1,(⟨3,y1.2.1,0,(IntKind.wrap .i64 (1+y3.2.1)),(⟨0,0,0,0,0,0⟩:Op)⟩:xx),())) none) (br (y2.2.1==1) ((Fh y2.1 2).bind λy4=>iteP (y4.1.length=y2.1.length) ((Fh y4.1 3).bind λy5=>iteP (y5.1.length=y4.1.length) (some (y5.1,(⟨4,0,y4.2.1,(IntKind.wrap .i64 (1+y5.2.1)),(⟨0,0,0,0,0,0⟩:Op)⟩:xx),())) none) none) (br (y2.2.1==2) (some (y2.1,(⟨5,0,0,0,(⟨0,0,0,0,0,0⟩:Op)⟩:xx),())) (br (y2.2.1==3) (some (y2.1,(⟨6,y1.2.1,0,0,(⟨0,0,0,0,0,0⟩:Op)⟩:xx),())) (let j23 (p6:Bool):Option ((List qO)×xx×Unit):=br p6 (some (y2.1,(⟨7,y1.2.1,0,0,(⟨0,0,0,0,0,0⟩:Op)⟩:xx),())) (br (y2.2.1==6) ((F8 y2.1 3).bind λy7=>iteP (y7.1.length=y2.1.length) (br y7.2.1 (some (y7.1,(⟨8,y1.2.1,0,0,(⟨0,0,0,0,0,0⟩:Op)⟩:xx),())) ((Mj y7.1).bind λy26=>iteP (y26.1.length=y7.1.length) (some (y26.1,(⟨1,y1.2.1,0,0,y26.2.1⟩:xx),())) none)) none) (br (y2.2.1==7) ((Fo y2.1 ([0,0,1]:List Int)).bind λy8=>iteP (y8.1.length=y2.1.length) (some (y8.1,(⟨9,y1.2.1,0,y8.2.1,(⟨0,0,0,0,0,0⟩:Op)⟩:xx),())) none) (br (y2.2.1==8) ((Fh y2.1 3).bind λy9=>iteP (y9.1.length=y2.1.length) (some (y9.1,(⟨10,0,0,(IntKind.wrap .i64 (1+y9.2.1)),(⟨0,0,0,0,0,0⟩:Op)⟩:xx),())) none) (let j22 (p10:Bool):Option ((List qO)×xx×Unit):=br p10 ((Fh y2.1 12).bind λy11=>iteP (y11.1.length=y2.1.length) (some (y11.1,(⟨11,0,0,y11.2.1,(⟨0,0,0,0,0,0⟩:Op)⟩:xx),())) none) (br (y2.2.1==11) ((Fh y2.1 5).bind λy12=>iteP (y12.1.length=y2.1.length) ((Fh y12.1 4).bind λy13=>iteP (y13.1.length=y12.1.length) (some (y13.1,(⟨12,y1.2.1,y12.2.1,(IntKind.wrap .i64 (1+y13.2.1)),(⟨0,0,0,0,0,0⟩:Op)⟩:xx),())) none) none) (br (y2.2.1==12) (some (y2.1,(⟨13,y1.2.1,0,0,(⟨0,0,0,0,0,0⟩:Op)⟩:xx),())) (br (y2.2.1==13) (some (y2.1,(⟨14,y1.2.1,0,0,(⟨0,0,0,0,0,0⟩:Op)⟩:xx),())) (br (y2.2.1==14) (some (y2.1,(⟨15,y1.2.1,0,0,(⟨0,0,0,0,0,0⟩:Op)⟩:xx),())) (let j21 (p14:Bool):Option ((List qO)×xx×Unit):=br p14 ((Fh y2.1 3).bind λy15=>iteP (y15.1.length=y2.1.length) ((Fh y15.1 20).bind λy16=>iteP (y16.1.length=y15.1.length) (some (y16.1,(⟨16,0,(IntKind.wrap .i64 (1+y15.2.1)),(IntKind.wrap .i64 (1+y16.2.1)),(⟨0,0,0,0,0,0⟩:Op)⟩:xx),())) none) none) (br (y2.2.1==17) ((Fh y2.1 3).bind λy19=>iteP (y19.1.length=y2.1.length) (some (y19.1,(⟨2,y1.2.1,0,y19.2.1,(⟨0,0,0,0,0,0⟩:Op)⟩:xx),())) none) (br (y2.2.1==18) ((Fh y2.1 3).bind λy20=>iteP (y20.1.length=y2.1.length) (some (y20.1,(⟨2,y1.2.1,0,y20.2.1,(⟨0,0,0,0,0,0⟩:Op)⟩:xx),())) none) ((Mj y2.1).bind λy27=>iteP (y27.1.length=y2.1.length) (some (y27.1,(⟨1,y1.2.1,0,0,y27.2.1⟩:xx),())) none)));br (y2.2.1==15) (j21 true) (j21 (y2.2.1==16)))))));br (y2.2.1==9) (j22 true) (j22 (y2.2.1==10))))));br (y2.2.1==4) (j23 true) (j23 (y2.2.1==5))))))) none) none
def Vr[dL] :=Q3 237 Tryz.f237 (.st .cur) [] [.st .event] (λl _=>LJ l) [FQ,Ia,Gb,TB] [] (by kernel_rfl) λl x=>by simp only[LJ,tm,-eq_self];kernel_rfl
abbrev O4:LX:=⟨⟨[RH,Y5,Mg],[],[.st .cur,.st .event],1,48⟩,[(.ext 0,⟨[Y5],[],[.st .cur,.st .event],1,48⟩)],[],[0,5,6],[5]⟩
def I2[dL](s:VB×Unit×List qO×List xx×Unit):O4.R:=
 br (decide (s.1.2.2.1>0)) ((LJ s.2.2.1).bind λy21=>iteP (y21.1.length=s.2.2.1.length) (br (y21.2.1.kind==1) ((F8 y21.1 3).bind λy22=>iteP (y22.1.length=y21.1.length) (br (!y22.2.1) ((Fo y22.1 ([0,0,1]:List Int)).bind λy23=>iteP (y23.1.length=y22.1.length) (iteP ((s.2.2.2.1++([(⟨y21.2.1.kind,y23.2.1,y21.2.1.other,y21.2.1.n,y21.2.1.op⟩:xx)]:List xx)).length*80<=2 ^ 40) (some (.inl (((),(),(IntKind.wrap .i64 (s.1.2.2.1-1)),()),(()),y23.1,(s.2.2.2.1++([(⟨y21.2.1.kind,y23.2.1,y21.2.1.other,y21.2.1.n,y21.2.1.op⟩:xx)]:List xx)),()))) none) none) (iteP ((s.2.2.2.1++([y21.2.1]:List xx)).length*80<=2 ^ 40) (some (.inl (((),(),(IntKind.wrap .i64 (s.1.2.2.1-1)),()),(()),y22.1,(s.2.2.2.1++([y21.2.1]:List xx)),()))) none)) none) (iteP ((s.2.2.2.1++([y21.2.1]:List xx)).length*80<=2 ^ 40) (some (.inl (((),(),(IntKind.wrap .i64 (s.1.2.2.1-1)),()),(()),y21.1,(s.2.2.2.1++([y21.2.1]:List xx)),()))) none)) none) (some (.inr (((),()),(()),s.2.2)))
def KM[dL] :=md I2
def SH[dL] :=Ib Tryz.f219 [0] O4 I2 [Ia,Vr,Gb] [] (by kernel_rfl) λs=>by simp only[I2,tm,-eq_self];kernel_rfl
def K1[dL](a0:List qO)(a1:Int):Option ((List qO)×(List xx)×Unit):=
 (Fh a0 3).bind λy1=>iteP (y1.1.length=a0.length) ((Fh y1.1 20).bind λy2=>iteP (y2.1.length=y1.1.length) ((F8 y2.1 2).bind λy3=>iteP (y3.1.length=y2.1.length) (br y3.2.1 ((Fh y3.1 (IntKind.wrap .i64 (a1+1))).bind λy17=>iteP (y17.1.length=y3.1.length) ((KM (((),(),y17.2.1,()),(()),y17.1,([(⟨4,0,1,2,(⟨0,0,0,0,0,0⟩:Op)⟩:xx),(⟨5,0,0,0,(⟨0,0,0,0,0,0⟩:Op)⟩:xx)]:List xx),())).bind λe28=>some e28.2.2) none) ((Fh y3.1 (IntKind.wrap .i64 (a1+1))).bind λy29=>iteP (y29.1.length=y3.1.length) ((KM (((),(),y29.2.1,()),(()),y29.1,([(⟨16,0,(IntKind.wrap .i64 (1+y1.2.1)),(IntKind.wrap .i64 (1+y2.2.1)),(⟨0,0,0,0,0,0⟩:Op)⟩:xx)]:List xx),())).bind λe40=>some e40.2.2) none)) none) none) none
def UB[dL] :=Q3 219 Tryz.f219 (.st .cur) Sr [.ls (.st .event)] (λl x=>K1 l x.1) [FQ,Ia] [SH] (by kernel_rfl) λl x=>by simp only[K1,tm,-eq_self];kernel_rfl
def HQ(a0:om):Option (om×Unit):=
 iteP ((([]:List Int)++a0.replicas).length*8<=2 ^ 40) (iteP ((([]:List Int)++a0.witnesses).length*8<=2 ^ 40) (some ((⟨a0.epoch,a0.primary,(([]:List Int)++a0.replicas),(([]:List Int)++a0.witnesses)⟩:om),())) none) none
def NZ[dL] :=FB 149 Tryz.f149 WO YB (λx=>HQ x.1) [] [] (by kernel_rfl) λx=>by simp only[HQ,tm];kernel_rfl
def Gx(a0:List sf):Option ((List sf)×Unit):=
 iteP ((([]:List sf)++a0).length*56<=2 ^ 40) (some ((([]:List sf)++a0),())) none
def Jc[dL] :=FB 87 Tryz.f87 Qf VD (λx=>Gx x.1) [] [] (by kernel_rfl) λx=>by simp only[Gx,tm];kernel_rfl
def Hh(a0:qQ):Option (qQ×Unit):=
 (HQ a0.config).bind λy1=>(Gx a0.log).bind λy2=>(Gx a0.learned).bind λy3=>some ((⟨a0.up,a0.intact,a0.version,a0.epoch,y1.1,a0.first,y2.1,a0.commit,y3.1⟩:qQ),())
def P8[dL] :=FB 142 Tryz.f142 XC [.st .server] (λx=>Hh x.1) [NZ,Jc] [] (by kernel_rfl) λx=>by simp only[Hh,tm];kernel_rfl
abbrev QF:LX:=⟨⟨[J9,N4,XD,M2],[VE,Wh,Zn],[.st .config],0,29⟩,[(.ext 0,⟨[N7,SN],[Wh,Zn],[.st .config],0,29⟩)],[.b 2 0 (.st .config)],[1,2,3,4],[2,3]⟩
def Jw(s:Yy×(ZH×TK×TK×Unit)×List om×Unit):QF.R:=
 br (decide (s.1.2.2.2.1< (s.2.1.1.1.length:Int))) (iteP (0<=s.1.2.2.2.1) ((s.2.1.1.1[s.1.2.2.2.1.toNat]?).bind λx14=>(HQ x14).bind λy15=>iteP ((s.2.2.1++([y15.1]:List om)).length*64<=2 ^ 40) (some (.inl (((),(),(),(IntKind.wrap .i64 (s.1.2.2.2.1+1)),()),s.2.1,(s.2.2.1++([y15.1]:List om)),()))) none) none) (some (.inr (((),(),()),s.2.1.2,s.2.2)))
def Qx:=md Jw
def UX[dL] :=Ib Tryz.f143 [0] QF Jw [NZ] [] (by kernel_rfl) λs=>by simp only[Jw,tm];kernel_rfl
def Ko(a0:kB):Option (kB×Unit):=
 (Qx (((),(),(),0,()),((a0.configs,a0.activated,()),((),0,()),((),a0.activated,()),()),([]:List om),())).bind λe16=>some ((⟨e16.2.2.1,e16.2.1.2.1.2.1⟩:kB),())
def P7[dL] :=FB 143 Tryz.f143 UE ZI (λx=>Ko x.1) [] [UX] (by kernel_rfl) λx=>by simp only[Ko,tm];kernel_rfl
abbrev QG:LX:=⟨⟨[J9,N4,XD,M2],[K8,M3,Zo],[.st .server],0,42⟩,[(.ext 0,⟨[J9,N4,XD],[K8,M3,Zo],[.st .server],0,42⟩)],[.b 2 1 (.st .server)],[1,2,3,4],[1,2,3]⟩
def Jx(s:Yy×(N8×Ns×(Int×Unit×List Int×List om×Int×Int×Int×Int×Int×List vB×Unit)×Unit)×List qQ×Unit):QG.R:=
 br (decide (s.1.2.2.2.1< (s.2.1.1.2.1.length:Int))) (iteP (0<=s.1.2.2.2.1) ((s.2.1.1.2.1[s.1.2.2.2.1.toNat]?).bind λx56=>(Hh x56).bind λy57=>iteP ((s.2.2.1++([y57.1]:List qQ)).length*152<=2 ^ 40) (some (.inl (((),(),(),(IntKind.wrap .i64 (s.1.2.2.2.1+1)),()),s.2.1,(s.2.2.1++([y57.1]:List qQ)),()))) none) none) (some (.inr (((),(),(),()),s.2)))
def Qy:=md Jx
def UY[dL] :=Ib Tryz.f65 [0] QG Jx [P8] [] (by kernel_rfl) λs=>by simp only[Jx,tm];kernel_rfl
def FA(a0:qN):Option (qN×Unit):=
 (Qy (((),(),(),0,()),((a0.now,a0.servers,a0.sides,a0.master.configs,a0.master.activated,a0.masterUp,a0.lease.epoch,a0.lease.holder,a0.lease.ends,a0.places,()),(0,(),(),(),0,0,0,0,0,(),()),(a0.now,(),a0.sides,a0.master.configs,a0.master.activated,a0.masterUp,a0.lease.epoch,a0.lease.holder,a0.lease.ends,a0.places,()),()),([]:List qQ),())).bind λe58=>iteP ((([]:List Int)++e58.2.1.1.2.2.1).length*8<=2 ^ 40) ((Ko (⟨e58.2.1.1.2.2.2.1,e58.2.1.1.2.2.2.2.1⟩:kB)).bind λy59=>iteP ((([]:List vB)++e58.2.1.1.2.2.2.2.2.2.2.2.2.1).length*24<=2 ^ 40) (some ((⟨e58.2.1.2.2.1.1,e58.2.2.1,(([]:List Int)++e58.2.1.1.2.2.1),y59.1,e58.2.1.2.2.1.2.2.2.2.2.1,(⟨e58.2.1.2.2.1.2.2.2.2.2.2.1,e58.2.1.2.2.1.2.2.2.2.2.2.2.1,e58.2.1.2.2.1.2.2.2.2.2.2.2.2.1⟩:vz),(([]:List vB)++e58.2.1.1.2.2.2.2.2.2.2.2.2.1)⟩:qN),())) none) none
def FX[dL] :=FB 65 Tryz.f65 TH XN (λx=>FA x.1) [P7] [UY] (by kernel_rfl) λx=>by simp only[FA,tm];kernel_rfl
abbrev PR:LX:=⟨⟨[NI,N6],[],[],0,19⟩,[(.ret,⟨[NI,PO],[],[],0,19⟩),(.ext 0,⟨[NI,OD],[],[],0,19⟩)],[],[0,3],[0,2]⟩
def IL(s:Y8×Unit×Unit):PR.R:=
 br (decide (s.1.2.1< (s.1.1.length:Int))) (iteP (0<=s.1.2.1) ((s.1.1[s.1.2.1.toNat]?).bind λx3=>(Fi x3 0 3).bind λy4=>br (!y4.1) (some (.inr (.inl ((s.1.1,false,()),(()),(()))))) (some (.inl ((s.1.1,(IntKind.wrap .i64 (s.1.2.1+1)),()),(()),(()))))) none) (some (.inr (.inr ((s.1.1,(),()),(()),(())))))
def Nq:=md IL
def TU[dL] :=Ib Tryz.f159 [0] PR IL [FF] [] (by kernel_rfl) λs=>by simp only[IL,tm];kernel_rfl
def G3(a0:List Int):Option (Bool×Unit):=
 (Nq ((a0,0,()),(()),(()))).bind λe5=>Sum.elim (λe5_0=>some e5_0.1.2) (λe5_1=>some (((e5_1.1.1.length:Int)==5),())) e5
def Nm[dL] :=FB 159 Tryz.f159 VA [.b] (λx=>G3 x.1) [] [TU] (by kernel_rfl) λx=>by simp only[G3,tm];kernel_rfl
abbrev Ob:LX:=⟨⟨[NI,N6],[],[],0,32⟩,[(.ret,⟨[PO],[],[],0,32⟩),(.ext 0,⟨[OD],[],[],0,32⟩)],[],[0,3],[2]⟩
def Gj(s:Y8×Unit×Unit):Ob.R:=
 br (decide (s.1.2.1< (s.1.1.length:Int))) (iteP (0<=s.1.2.1) ((s.1.1[s.1.2.1.toNat]?).bind λx3=>(Fi x3 0 4).bind λy4=>br (!y4.1) (some (.inr (.inl ((false,()),(()),(()))))) (br (decide (s.1.2.1>0)) (iteP (0<=(IntKind.wrap .i64 (s.1.2.1-1))) ((s.1.1[(IntKind.wrap .i64 (s.1.2.1-1)).toNat]?).bind λx5=>iteP (0<=s.1.2.1) ((s.1.1[s.1.2.1.toNat]?).bind λx6=>br (decide (x5≥x6)) (some (.inr (.inl ((false,()),(()),(()))))) (some (.inl ((s.1.1,(IntKind.wrap .i64 (s.1.2.1+1)),()),(()),(()))))) none) none) (some (.inl ((s.1.1,(IntKind.wrap .i64 (s.1.2.1+1)),()),(()),(())))))) none) (some (.inr (.inr (((),()),(()),(())))))
def J8:=md Gj
def RV[dL] :=Ib Tryz.f205 [0] Ob Gj [FF] [] (by kernel_rfl) λs=>by simp only[Gj,tm];kernel_rfl
def F4(a0:List Int):Option (Bool×Unit):=
 (J8 ((a0,0,()),(()),(()))).bind λe7=>Sum.elim (λe7_0=>some e7_0.1) (λ_=>some (true,())) e7
def Lp[dL] :=FB 205 Tryz.f205 VA [.b] (λx=>F4 x.1) [] [RV] (by kernel_rfl) λx=>by simp only[F4,tm];kernel_rfl
abbrev OZ:LX:=⟨⟨[NI,K7,Nr],[],[],0,18⟩,[(.ret,⟨[UH],[],[],0,18⟩),(.ext 0,⟨[Qz],[],[],0,18⟩)],[],[0,1,5],[4]⟩
def Ij(s:Y9×Unit×Unit):OZ.R:=
 br (decide (s.1.2.2.1< (s.1.1.length:Int))) (iteP (0<=s.1.2.2.1) ((s.1.1[s.1.2.2.1.toNat]?).bind λx4=>br (x4==s.1.2.1) (some (.inr (.inl ((true,()),(()),(()))))) (some (.inl ((s.1.1,s.1.2.1,(IntKind.wrap .i64 (s.1.2.2.1+1)),()),(()),(()))))) none) (some (.inr (.inr (((),()),(()),(())))))
def Mr:=md Ij
def SB[dL] :=Ib Tryz.f127 [0] OZ Ij [] [] (by kernel_rfl) λs=>by simp only[Ij,tm];kernel_rfl
def FC(a0:List Int)(a1:Int):Option (Bool×Unit):=
 (Mr ((a0,a1,0,()),(()),(()))).bind λe5=>Sum.elim (λe5_0=>some e5_0.1) (λ_=>some (false,())) e5
def GU[dL] :=FB 127 Tryz.f127 UF [.b] (λx=>FC x.1 x.2.1) [] [SB] (by kernel_rfl) λx=>by simp only[FC,tm];kernel_rfl
abbrev ST:LX:=⟨⟨[NI,K7,Nr],[],[],0,47⟩,[(.ext 0,⟨[NI,K7,Nr],[],[],0,47⟩)],[],[0,1,5],[0,1,5]⟩
def IR(s:Y9×Unit×Unit):ST.R:=
 br (decide (s.1.2.2.1< (s.1.1.length:Int))) (iteP (0<=s.1.2.2.1) ((s.1.1[s.1.2.2.1.toNat]?).bind λx4=>br (decide (x4<s.1.2.1)) (some (.inl ((s.1.1,s.1.2.1,(IntKind.wrap .i64 (s.1.2.2.1+1)),()),(()),(())))) (some (.inr (s.1,(()),(()))))) none) (some (.inr (s.1,(()),(()))))
def Qe:=md IR
def WT[dL] :=Ib Tryz.f211 [0] ST IR [] [] (by kernel_rfl) λs=>by simp only[IR,tm];kernel_rfl
def HE(a0:List Int)(a1:Int):Option ((List Int)×Unit):=
 (Qe ((a0,a1,0,()),(()),(()))).bind λe5=>let j7:Option ((List Int)×Unit):=iteP (0<=(0:Int)/\(0:Int)<=e5.1.2.2.1/\e5.1.2.2.1<=(e5.1.1.length:Int)) (iteP ((([]:List Int)++((e5.1.1.drop (0:Int).toNat).take (e5.1.2.2.1.toNat-(0:Int).toNat))).length*8<=2 ^ 40) (iteP (((([]:List Int)++((e5.1.1.drop (0:Int).toNat).take (e5.1.2.2.1.toNat-(0:Int).toNat)))++([e5.1.2.1]:List Int)).length*8<=2 ^ 40) (iteP (0<=e5.1.2.2.1/\e5.1.2.2.1<=(e5.1.1.length:Int)/\(e5.1.1.length:Int)<=(e5.1.1.length:Int)) (iteP ((((([]:List Int)++((e5.1.1.drop (0:Int).toNat).take (e5.1.2.2.1.toNat-(0:Int).toNat)))++([e5.1.2.1]:List Int))++((e5.1.1.drop e5.1.2.2.1.toNat).take ((e5.1.1.length:Int).toNat-e5.1.2.2.1.toNat))).length*8<=2 ^ 40) (some ((((([]:List Int)++((e5.1.1.drop (0:Int).toNat).take (e5.1.2.2.1.toNat-(0:Int).toNat)))++([e5.1.2.1]:List Int))++((e5.1.1.drop e5.1.2.2.1.toNat).take ((e5.1.1.length:Int).toNat-e5.1.2.2.1.toNat))),())) none) none) none) none) none;br (decide (e5.1.2.2.1< (e5.1.1.length:Int))) (iteP (0<=e5.1.2.2.1) ((e5.1.1[e5.1.2.2.1.toNat]?).bind λx6=>br (x6==e5.1.2.1) (iteP ((([]:List Int)++e5.1.1).length*8<=2 ^ 40) (some ((([]:List Int)++e5.1.1),())) none) (j7)) none) (j7)
def Nn[dL] :=FB 211 Tryz.f211 UF Lt (λx=>HE x.1 x.2.1) [] [WT] (by kernel_rfl) λx=>by simp only[HE,tm];kernel_rfl
abbrev Mi:LX:=⟨⟨[NI,PI,MZ,Mg],[],Ir,0,27⟩,[(.ext 0,⟨[MZ],[],Ir,0,27⟩)],[],[0,1,5,6],[5]⟩
def GF(s:XJ×Unit×List Int×Unit):Mi.R:=
 br (decide (s.1.2.2.2.1< (s.1.1.length:Int))) (iteP (0<=s.1.2.2.2.1) ((s.1.1[s.1.2.2.2.1.toNat]?).bind λx5=>(FC s.1.2.1 x5).bind λy6=>br y6.1 (iteP (0<=s.1.2.2.2.1) ((s.1.1[s.1.2.2.2.1.toNat]?).bind λx7=>(HE s.2.2.1 x7).bind λy8=>some (.inl ((s.1.1,s.1.2.1,(),(IntKind.wrap .i64 (s.1.2.2.2.1+1)),()),(()),y8.1,()))) none) (some (.inl ((s.1.1,s.1.2.1,(),(IntKind.wrap .i64 (s.1.2.2.2.1+1)),()),(()),s.2.2)))) none) (some (.inr (((),()),(()),s.2.2)))
def Mf:=md GF
def PX[dL] :=Ib Tryz.f164 [0] Mi GF [GU,Nn] [] (by kernel_rfl) λs=>by simp only[GF,tm];kernel_rfl
def GL(a0:List Int)(a1:List Int):Option ((List Int)×Unit):=
 (Mf ((a0,a1,(),0,()),(()),([]:List Int),())).bind λe10=>some e10.2.2
def K5[dL] :=FB 164 Tryz.f164 UG Lt (λx=>GL x.1 x.2.1) [] [PX] (by kernel_rfl) λx=>by simp only[GL,tm];kernel_rfl
def Fm(a0:om):Option (Bool×Unit):=
 (Fi a0.epoch 1 20).bind λy1=>br y1.1 ((F4 a0.replicas).bind λy2=>br y2.1 ((F4 a0.witnesses).bind λy3=>br y3.1 ((FC a0.replicas a0.primary).bind λy4=>br y4.1 ((GL a0.replicas a0.witnesses).bind λy5=>some (((y5.1.length:Int)==0),())) (some (false,()))) (some (false,()))) (some (false,()))) (some (false,()))
def Jn[dL] :=FB 148 Tryz.f148 WO [.b] (λx=>Fm x.1) [FF,Lp,GU,K5] [] (by kernel_rfl) λx=>by simp only[Fm,tm];kernel_rfl
abbrev NG:LX:=⟨⟨[J9,N6],[VE],[],0,35⟩,[(.ret,⟨[J9,PO],[VE],[],0,35⟩),(.ext 0,⟨[J9,OD],[VE],[],0,35⟩)],[],[1,3],[1,2]⟩
def FJ(s:TK×(ZH×Unit)×Unit):NG.R:=
 br (decide (s.1.2.1< (s.2.1.1.1.length:Int))) (iteP (0<=s.1.2.1) ((s.2.1.1.1[s.1.2.1.toNat]?).bind λx4=>(Fm x4).bind λy5=>br (!y5.1) (some (.inr (.inl (((),false,()),s.2.1,(()))))) (iteP (0<=s.1.2.1) ((s.2.1.1.1[s.1.2.1.toNat]?).bind λx6=>br (!(x6.epoch==(IntKind.wrap .i64 (s.1.2.1+1)))) (some (.inr (.inl (((),false,()),s.2.1,(()))))) (some (.inl (((),(IntKind.wrap .i64 (s.1.2.1+1)),()),s.2.1,(()))))) none)) none) (some (.inr (.inr (((),(),()),s.2.1,(())))))
def Ic:=md FJ
def QY[dL] :=Ib Tryz.f147 [0] NG FJ [Jn] [] (by kernel_rfl) λs=>by simp only[FJ,tm];kernel_rfl
def FL(a0:kB):Option (Bool×Unit):=
 (Ic (((),0,()),((a0.configs,a0.activated,()),()),(()))).bind λe7=>Sum.elim (λe7_0=>some e7_0.1.2) (λe7_1=>(Fi e7_1.2.1.1.2.1 0 (e7_1.2.1.1.1.length:Int)).bind λy8=>some (y8.1,())) e7
def KK[dL] :=FB 147 Tryz.f147 UE [.b] (λx=>FL x.1) [FF] [QY] (by kernel_rfl) λx=>by simp only[FL,tm];kernel_rfl
def GH(a0:vz):Option (Bool×Unit):=
 br ((a0.epoch==0)&&((a0.holder==0)&&((a0.ends==0)&&true))) (some (true,())) ((Fi a0.epoch 1 20).bind λy1=>br y1.1 ((Fi a0.holder 0 4).bind λy2=>br y2.1 ((Fi a0.ends 1 1049).bind λy3=>some (y3.1,())) (some (false,()))) (some (false,())))
def MS[dL] :=FB 144 Tryz.f144 Xy [.b] (λx=>GH x.1) [FF] [] (by kernel_rfl) λx=>by simp only[GH,tm];kernel_rfl
def FD(a0:Op):Option (Bool×Unit):=
 (Fi a0.client 0 2).bind λy1=>br (!y1.1) (some (false,())) ((Fi a0.seq 1 99).bind λy2=>br (!y2.1) (some (false,())) ((Fi a0.object 0 2).bind λy3=>br (!y3.1) (some (false,())) ((Fi a0.value 0 9).bind λy4=>br (!y4.1) (some (false,())) (br (a0.kind==1) (br (a0.old==0) (some (true,())) (br (a0.kind==2) ((Fi a0.old 0 9).bind λy5=>some (y5.1,())) (some (false,())))) (br (a0.kind==2) ((Fi a0.old 0 9).bind λy6=>some (y6.1,())) (some (false,())))))))
def K3[dL] :=FB 181 Tryz.f181 V7 [.b] (λx=>FD x.1) [FF] [] (by kernel_rfl) λx=>by simp only[FD,tm];kernel_rfl
abbrev SR:LX:=⟨⟨[Mh,N6],[],[],0,47⟩,[(.ret,⟨[Mh,PO],[],[],0,47⟩),(.ext 0,⟨[Mh,OD],[],[],0,47⟩)],[],[0,3],[0,2]⟩
def IM(s:Za×Unit×Unit):SR.R:=
 br (decide (s.1.2.1< (s.1.1.length:Int))) (iteP (0<=s.1.2.1) ((s.1.1[s.1.2.1.toNat]?).bind λx3=>(Fi x3.epoch 1 20).bind λy4=>br (!y4.1) (some (.inr (.inl ((s.1.1,false,()),(()),(()))))) (iteP (0<=s.1.2.1) ((s.1.1[s.1.2.1.toNat]?).bind λx5=>(FD x5.op).bind λy6=>br (!y6.1) (some (.inr (.inl ((s.1.1,false,()),(()),(()))))) (br (decide (s.1.2.1>0)) (iteP (0<=(IntKind.wrap .i64 (s.1.2.1-1))) ((s.1.1[(IntKind.wrap .i64 (s.1.2.1-1)).toNat]?).bind λx7=>iteP (0<=s.1.2.1) ((s.1.1[s.1.2.1.toNat]?).bind λx8=>br (decide (x7.epoch>x8.epoch)) (some (.inr (.inl ((s.1.1,false,()),(()),(()))))) (some (.inl ((s.1.1,(IntKind.wrap .i64 (s.1.2.1+1)),()),(()),(()))))) none) none) (some (.inl ((s.1.1,(IntKind.wrap .i64 (s.1.2.1+1)),()),(()),(())))))) none)) none) (some (.inr (.inr ((s.1.1,(),()),(()),(())))))
def MW:=md IM
def WS[dL] :=Ib Tryz.f115 [0] SR IM [FF,K3] [] (by kernel_rfl) λs=>by simp only[IM,tm];kernel_rfl
def FZ(a0:List sf):Option (Bool×Unit):=
 (MW ((a0,0,()),(()),(()))).bind λe9=>Sum.elim (λe9_0=>some e9_0.1.2) (λe9_1=>some ((decide ((e9_1.1.1.length:Int)<=16)),())) e9
def Lq[dL] :=FB 115 Tryz.f115 Qf [.b] (λx=>FZ x.1) [] [WS] (by kernel_rfl) λx=>by simp only[FZ,tm];kernel_rfl
abbrev M6:LX:=⟨⟨[NI,PI,Nr],[],[],0,26⟩,[(.ret,⟨[UH],[],[],0,26⟩),(.ext 0,⟨[Qz],[],[],0,26⟩)],[],[0,1,5],[4]⟩
def GW(s: (List Int×List Int×Int×Unit)×Unit×Unit):M6.R:=
 br (decide (s.1.2.2.1< (s.1.1.length:Int))) (iteP (0<=s.1.2.2.1) ((s.1.1[s.1.2.2.1.toNat]?).bind λx4=>iteP (0<=s.1.2.2.1) ((s.1.2.1[s.1.2.2.1.toNat]?).bind λx5=>br (!(x4==x5)) (some (.inr (.inl ((false,()),(()),(()))))) (some (.inl ((s.1.1,s.1.2.1,(IntKind.wrap .i64 (s.1.2.2.1+1)),()),(()),(()))))) none) none) (some (.inr (.inr (((),()),(()),(())))))
def Ky:=md GW
def Qj[dL] :=Ib Tryz.f210 [0] M6 GW [] [] (by kernel_rfl) λs=>by simp only[GW,tm];kernel_rfl
def HN(a0:List Int)(a1:List Int):Option (Bool×Unit):=
 br (!((a0.length:Int)==(a1.length:Int))) (some (false,())) ((Ky ((a0,a1,0,()),(()),(()))).bind λe6=>Sum.elim (λe6_0=>some e6_0.1) (λ_=>some (true,())) e6)
def Rk[dL] :=FB 210 Tryz.f210 UG [.b] (λx=>HN x.1 x.2.1) [] [Qj] (by kernel_rfl) λx=>by simp only[HN,tm];kernel_rfl
def Gm(a0:om)(a1:om):Option (Bool×Unit):=
 br (a0.epoch==a1.epoch) (br (a0.primary==a1.primary) ((HN a0.replicas a1.replicas).bind λy1=>br y1.1 ((HN a0.witnesses a1.witnesses).bind λy2=>some (y2.1,())) (some (false,()))) (some (false,()))) (some (false,()))
def J4[dL] :=FB 163 Tryz.f163 YR [.b] (λx=>Gm x.1 x.2.1) [Rk] [] (by kernel_rfl) λx=>by simp only[Gm,tm];kernel_rfl
def Ip(a0:om):Option (Bool×Unit):=
 (Gm a0 (⟨0,0,([]:List Int),([]:List Int)⟩:om)).bind λy1=>some (y1.1,())
def Oz[dL] :=FB 162 Tryz.f162 WO [.b] (λx=>Ip x.1) [J4] [] (by kernel_rfl) λx=>by simp only[Ip,tm];kernel_rfl
def JD(a0:List sf):Option (Int×Unit):=
 br ((a0.length:Int)==0) (some (0,())) (iteP (0<=(IntKind.wrap .i64 ((a0.length:Int)-1))) ((a0[(IntKind.wrap .i64 ((a0.length:Int)-1)).toNat]?).bind λx1=>some (x1.epoch,())) none)
def P9[dL] :=FB 150 Tryz.f150 Qf Kz (λx=>JD x.1) [] [] (by kernel_rfl) λx=>by simp only[JD,tm];kernel_rfl
def GD(a0:om)(a1:Int):Option (Int×Unit):=
 (Fm a0).bind λy1=>br (!y1.1) (some (0,())) (br (a1==a0.primary) (some (1,())) ((FC a0.replicas a1).bind λy2=>br y2.1 (some (2,())) ((FC a0.witnesses a1).bind λy3=>br y3.1 (some (3,())) (some (0,())))))
def LN[dL] :=FB 119 Tryz.f119 YS Kz (λx=>GD x.1 x.2.1) [Jn,GU] [] (by kernel_rfl) λx=>by simp only[GD,tm];kernel_rfl
def Fp(a0:qQ)(a1:Int):Option (Bool×Unit):=
 (Fi a0.version 1 2).bind λy1=>br (!y1.1) (some (false,())) ((Fi a0.epoch 0 20).bind λy2=>br (!y2.1) (some (false,())) ((FZ a0.log).bind λy3=>br (!y3.1) (some (false,())) ((FZ a0.learned).bind λy4=>br (!y4.1) (some (false,())) ((Fi a0.first 0 16).bind λy5=>br (!y5.1) (some (false,())) ((Fi (IntKind.wrap .i64 (a0.first+(a0.log.length:Int))) 0 16).bind λy6=>br (!y6.1) (some (false,())) ((Fi a0.commit 0 (IntKind.wrap .i64 (a0.first+(a0.log.length:Int)))).bind λy7=>br (!y7.1) (some (false,())) ((Ip a0.config).bind λy8=>br y8.1 (br (a0.first==0) (br ((a0.log.length:Int)==0) (some ((a0.commit==0),())) (some (false,()))) (some (false,()))) (br (!a0.intact) (some (false,())) (br (decide (a0.epoch<a0.config.epoch)) (some (false,())) ((JD a0.log).bind λy9=>br (decide (y9.1>a0.config.epoch)) (some (false,())) ((GD a0.config a1).bind λy10=>br (y10.1==0) (some (false,())) (br (y10.1==3) (br (decide ((a0.log.length:Int)<=3)) (br ((a0.log.length:Int)==3) (some (true,())) (some ((a0.first==0),()))) (some (false,()))) (some ((a0.first==0),()))))))))))))))
def Nz[dL] :=FB 161 Tryz.f161 TJ [.b] (λx=>Fp x.1 x.2.1) [FF,Lq,Oz,P9,LN] [] (by kernel_rfl) λx=>by simp only[Fp,tm];kernel_rfl
def G4(a0:kB)(a1:Int):Option (om×Bool×Unit):=
 (FL a0).bind λy1=>br (!y1.1) (some ((⟨0,0,([]:List Int),([]:List Int)⟩:om),false,())) ((Fi a1 1 (a0.configs.length:Int)).bind λy2=>br (!y2.1) (some ((⟨0,0,([]:List Int),([]:List Int)⟩:om),false,())) (iteP (0<=(IntKind.wrap .i64 (a1-1))) ((a0.configs[(IntKind.wrap .i64 (a1-1)).toNat]?).bind λx3=>(HQ x3).bind λy4=>some (y4.1,true,())) none))
def O9[dL] :=FB 158 Tryz.f158 Xz XO (λx=>G4 x.1 x.2.1) [KK,FF,NZ] [] (by kernel_rfl) λx=>by simp only[G4,tm];kernel_rfl
abbrev LZ:LX:=⟨⟨[J9,N6],[K8],[],0,123⟩,[(.ret,⟨[PO],[],[],0,123⟩),(.ext 0,⟨[OD],[],[],0,123⟩)],[],[1,3],[2]⟩
def Ft(s:TK×(N8×Unit)×Unit):LZ.R:=
 br (decide (s.1.2.1< (s.2.1.1.2.1.length:Int))) (iteP (0<=s.1.2.1) ((s.2.1.1.2.1[s.1.2.1.toNat]?).bind λx18=>(Fp x18 s.1.2.1).bind λy19=>br (!y19.1) (some (.inr (.inl ((false,()),(()),(()))))) (br (decide (x18.epoch>(s.2.1.1.2.2.2.1.length:Int))) (some (.inr (.inl ((false,()),(()),(()))))) ((JD x18.learned).bind λy20=>br (decide (y20.1>s.2.1.1.2.2.2.2.1)) (some (.inr (.inl ((false,()),(()),(()))))) ((G4 (⟨s.2.1.1.2.2.2.1,s.2.1.1.2.2.2.2.1⟩:kB) x18.config.epoch).bind λy21=>(Ip x18.config).bind λy22=>br (!y22.1) (br (!y21.2.1) (some (.inr (.inl ((false,()),(()),(()))))) ((Gm y21.1 x18.config).bind λy23=>br (!y23.1) (some (.inr (.inl ((false,()),(()),(()))))) (br (decide (x18.config.epoch>s.2.1.1.2.2.2.2.1)) (some (.inr (.inl ((false,()),(()),(()))))) (some (.inl (((),(IntKind.wrap .i64 (s.1.2.1+1)),()),s.2.1,(()))))))) (some (.inl (((),(IntKind.wrap .i64 (s.1.2.1+1)),()),s.2.1,(())))))))) none) (some (.inr (.inr (((),()),(()),(())))))
def H1:=md Ft
def Pj[dL] :=Ib Tryz.f79 [0] LZ Ft [Nz,P9,O9,Oz,J4] [] (by kernel_rfl) λs=>by simp only[Ft,tm];kernel_rfl
def Fg(a0:qN):Option (Bool×Unit):=
 (Fi a0.now 0 999).bind λy1=>br (!y1.1) (some (false,())) (br (!((a0.servers.length:Int)==5)) (some (false,())) ((G3 a0.sides).bind λy2=>br (!y2.1) (some (false,())) ((FL a0.master).bind λy3=>br (!y3.1) (some (false,())) ((Fi a0.masterUp 0 3).bind λy4=>br (!y4.1) (some (false,())) ((GH a0.lease).bind λy5=>br (!y5.1) (some (false,())) ((FI a0.places).bind λy6=>br (!y6.1) (some (false,())) (br (decide (a0.lease.epoch>a0.master.activated)) (some (false,())) ((H1 (((),0,()),((a0.now,a0.servers,a0.sides,a0.master.configs,a0.master.activated,a0.masterUp,a0.lease.epoch,a0.lease.holder,a0.lease.ends,a0.places,()),()),(()))).bind λe24=>Sum.elim (λe24_0=>some e24_0.1) (λ_=>some (true,())) e24))))))))
def Fk[dL] :=FB 79 Tryz.f79 TH [.b] (λx=>Fg x.1) [FF,Nm,KK,MS,K2] [Pj] (by kernel_rfl) λx=>by simp only[Fg,tm];kernel_rfl
def MN(a0:Int):Option (Bool×Bool×Bool×Unit):=
 br (a0==1) (some (true,false,false,())) (let j5 (p1:Bool):Option (Bool×Bool×Bool×Unit):=br p1 (some (true,false,false,())) (let j4 (p2:Bool):Option (Bool×Bool×Bool×Unit):=br p2 (some (true,false,true,())) (br (a0==4) (some (false,true,true,())) (br (a0==10) (some (false,false,true,())) (br (a0==11) (some (false,false,true,())) (br (a0==12) (some (true,true,true,())) (br (a0==16) (some (false,true,true,())) (some (false,false,false,())))))));br (a0==2) (j4 true) (br (a0==3) (j4 true) (j4 (a0==9))));br (a0==6) (j5 true) (br (a0==7) (j5 true) (br (a0==8) (j5 true) (br (a0==13) (j5 true) (br (a0==14) (j5 true) (j5 (a0==15)))))))
def WK[dL] :=FB 267 Tryz.f267 Sr [.b,.b,.b] (λx=>MN x.1) [] [] (by kernel_rfl) λx=>by simp only[MN,tm];kernel_rfl
def Ix(a0:xx):Option (Bool×Unit):=
 (Fi a0.kind 1 16).bind λy1=>br (!y1.1) (some (false,())) ((Fi a0.server 0 4).bind λy2=>br (!y2.1) (some (false,())) ((Fi a0.other 0 4).bind λy3=>br (!y3.1) (some (false,())) ((Fi a0.n 0 999).bind λy4=>br (!y4.1) (some (false,())) ((MN a0.kind).bind λy5=>let j7:Option (Bool×Unit):=br (a0.kind==1) ((FD a0.op).bind λy6=>some (y6.1,())) (some (((a0.op.client==0)&&((a0.op.seq==0)&&((a0.op.kind==0)&&((a0.op.object==0)&&((a0.op.old==0)&&((a0.op.value==0)&&true)))))),()));br (!y5.1) (br (!(a0.server==0)) (some (false,())) (br (!y5.2.1) (br (!(a0.other==0)) (some (false,())) (br (!y5.2.2.1) (br (!(a0.n==0)) (some (false,())) (j7)) (j7))) (br (!y5.2.2.1) (br (!(a0.n==0)) (some (false,())) (j7)) (j7)))) (br (!y5.2.1) (br (!(a0.other==0)) (some (false,())) (br (!y5.2.2.1) (br (!(a0.n==0)) (some (false,())) (j7)) (j7))) (br (!y5.2.2.1) (br (!(a0.n==0)) (some (false,())) (j7)) (j7)))))))
def Rm[dL] :=FB 250 Tryz.f250 [.ty (.st .event)] [.b] (λx=>Ix x.1) [FF,WK,K3] [] (by kernel_rfl) λx=>by simp only[Ix,tm];kernel_rfl
def FT(a0:qQ)(a1:Int):Option (Bool×Unit):=
 (Fp a0 a1).bind λy1=>br y1.1 (br a0.up ((GD a0.config a1).bind λy2=>br (y2.1==1) (some ((a0.epoch==a0.config.epoch),())) (some (false,()))) (some (false,()))) (some (false,()))
def HS[dL] :=FB 109 Tryz.f109 TJ [.b] (λx=>FT x.1 x.2.1) [Nz,LN] [] (by kernel_rfl) λx=>by simp only[FT,tm];kernel_rfl
abbrev RM:LX:=⟨⟨[Mh,K7,PJ,Pd],[],[],0,33⟩,[(.ret,⟨[Mg],[],[],0,33⟩),(.ext 0,⟨[(6,.cl (.dead))],[],[],0,33⟩)],[],[0,1,2,7],[6]⟩
def Kh(s: (List sf×Int×Int×Int×Unit)×Unit×Unit):RM.R:=
 br (decide (s.1.2.2.2.1< (s.1.1.length:Int))) (iteP (0<=s.1.2.2.2.1) ((s.1.1[s.1.2.2.2.1.toNat]?).bind λx5=>br (x5.op.client==s.1.2.1) (iteP (0<=s.1.2.2.2.1) ((s.1.1[s.1.2.2.2.1.toNat]?).bind λx6=>br (x6.op.seq==s.1.2.2.1) (some (.inr (.inl (s.1.2.2.2,(()),(()))))) (some (.inl ((s.1.1,s.1.2.1,s.1.2.2.1,(IntKind.wrap .i64 (s.1.2.2.2.1+1)),()),(()),(()))))) none) (some (.inl ((s.1.1,s.1.2.1,s.1.2.2.1,(IntKind.wrap .i64 (s.1.2.2.2.1+1)),()),(()),(()))))) none) (some (.inr (.inr (((),()),(()),(())))))
def Vw:=md Kh
def VK[dL] :=Ib Tryz.f269 [0] RM Kh [] [] (by kernel_rfl) λs=>by simp only[Kh,tm];kernel_rfl
def MD(a0:List sf)(a1:Int)(a2:Int):Option (Int×Unit):=
 (Vw ((a0,a1,a2,0,()),(()),(()))).bind λe7=>Sum.elim (λe7_0=>some e7_0.1) (λ_=>some ((-1),())) e7
def Uq[dL] :=FB 269 Tryz.f269 YT Kz (λx=>MD x.1 x.2.1 x.2.2.1) [] [VK] (by kernel_rfl) λx=>by simp only[MD,tm];kernel_rfl
def JY:Option (nX×Unit):=
 some ((⟨([0,0,0]:List Int),([]:List nY)⟩:nX),())
def Ts[dL] :=FB 114 Tryz.f114 [] YC (λ_=>JY) [] [] (by kernel_rfl) λx=>by simp only[JY,tm];kernel_rfl
def LK(a0:nX):Option (nX×Unit):=
 iteP ((([]:List Int)++a0.objects).length*8<=2 ^ 40) (iteP ((([]:List nY)++a0.sessions).length*32<=2 ^ 40) (some ((⟨(([]:List Int)++a0.objects),(([]:List nY)++a0.sessions)⟩:nX),())) none) none
def Xt[dL] :=FB 182 Tryz.f182 V8 YC (λx=>LK x.1) [] [] (by kernel_rfl) λx=>by simp only[LK,tm];kernel_rfl
abbrev L0:LX:=⟨⟨[J9,N6],[UN],[],0,69⟩,[(.ret,⟨[J9,PO],[UN],[],0,69⟩),(.ext 0,⟨[J9,OD],[UN],[],0,69⟩)],[],[1,3],[1,2]⟩
def FG(s:TK×(Yz×Unit)×Unit):L0.R:=
 br (decide (s.1.2.1< (s.2.1.1.1.length:Int))) (iteP (0<=s.1.2.1) ((s.2.1.1.1[s.1.2.1.toNat]?).bind λx4=>(Fi x4 0 9).bind λy5=>br (!y5.1) (some (.inr (.inl (((),false,()),s.2.1,(()))))) (some (.inl (((),(IntKind.wrap .i64 (s.1.2.1+1)),()),s.2.1,(()))))) none) (some (.inr (.inr (((),(),()),s.2.1,(())))))
def H2:=md FG
def Pk[dL] :=Ib Tryz.f183 [0] L0 FG [FF] [] (by kernel_rfl) λs=>by simp only[FG,tm];kernel_rfl
abbrev L3:LX:=⟨⟨[J9,M2],[UN],[],0,69⟩,[(.ret,⟨[J9,PO],[UN],[],0,69⟩),(.ext 2,⟨[J9,OD],[UN],[],0,69⟩)],[],[1,4],[1,2]⟩
def FH(s:TK×(Yz×Unit)×Unit):L3.R:=
 br (decide (s.1.2.1< (s.2.1.1.2.1.length:Int))) (iteP (0<=s.1.2.1) ((s.2.1.1.2.1[s.1.2.1.toNat]?).bind λx10=>(Fi x10.client 0 2).bind λy11=>br (!y11.1) (some (.inr (.inl (((),false,()),s.2.1,(()))))) ((Fi x10.seq 1 99).bind λy12=>br (!y12.1) (some (.inr (.inl (((),false,()),s.2.1,(()))))) ((Fi x10.result.value 0 9).bind λy13=>br (!y13.1) (some (.inr (.inl (((),false,()),s.2.1,(()))))) (br (decide (s.1.2.1>0)) (iteP (0<=(IntKind.wrap .i64 (s.1.2.1-1))) ((s.2.1.1.2.1[(IntKind.wrap .i64 (s.1.2.1-1)).toNat]?).bind λx14=>br (decide (x14.client≥x10.client)) (some (.inr (.inl (((),false,()),s.2.1,(()))))) (some (.inl (((),(IntKind.wrap .i64 (s.1.2.1+1)),()),s.2.1,(()))))) none) (some (.inl (((),(IntKind.wrap .i64 (s.1.2.1+1)),()),s.2.1,(())))))))) none) (some (.inr (.inr (((),(),()),s.2.1,(())))))
def G7:=md FH
def Pm[dL] :=Ib Tryz.f183 [1] L3 FH [FF] [] (by kernel_rfl) λs=>by simp only[FH,tm];kernel_rfl
def FV(a0:nX):Option (Bool×Unit):=
 (H2 (((),0,()),((a0.objects,a0.sessions,()),()),(()))).bind λe6=>Sum.elim (λe6_0=>some e6_0.1.2) (λe6_1=>(G7 (((),0,()),e6_1.2.1,(()))).bind λe15=>Sum.elim (λe15_0=>some e15_0.1.2) (λe15_1=>some (((e15_1.2.1.1.1.length:Int)==3),())) e15) e6
def MT[dL] :=FB 183 Tryz.f183 V8 [.b] (λx=>FV x.1) [] [Pk,Pm] (by kernel_rfl) λx=>by simp only[FV,tm];kernel_rfl
abbrev O2:LX:=⟨⟨[K7,N7,OT,Mg],[UN,SO],[],0,28⟩,[(.ret,⟨[M1,(5,.cl (.bl))],[SO],[],0,28⟩),(.ext 0,⟨[M1,XE],[SO],[],0,28⟩)],[],[1,2,4,6],[4,5]⟩
def Gg(s: (Int×Unit×Unit×Int×Unit)×(Yz×Zb×Unit)×Unit):O2.R:=
 br (decide (s.1.2.2.2.1< (s.2.1.1.2.1.length:Int))) (iteP (0<=s.1.2.2.2.1) ((s.2.1.1.2.1[s.1.2.2.2.1.toNat]?).bind λx9=>br (x9.client==s.1.1) (iteP (0<=s.1.2.2.2.1) ((s.2.1.1.2.1[s.1.2.2.2.1.toNat]?).bind λx10=>some (.inr (.inl (((),true,()),((x10.client,x10.seq,x10.result.done,x10.result.value,()),()),(()))))) none) (some (.inl ((s.1.1,(),(),(IntKind.wrap .i64 (s.1.2.2.2.1+1)),()),s.2.1,(()))))) none) (some (.inr (.inr (((),(),()),s.2.1.2,(())))))
def KL:=md Gg
def SF[dL] :=Ib Tryz.f184 [0] O2 Gg [] [] (by kernel_rfl) λs=>by simp only[Gg,tm];kernel_rfl
def GS(a0:nX)(a1:Int):Option (nY×Bool×Unit):=
 (KL ((a1,(),(),0,()),((a0.objects,a0.sessions,()),(0,0,false,0,()),()),(()))).bind λe11=>Sum.elim (λe11_0=>some ((⟨e11_0.2.1.1.1,e11_0.2.1.1.2.1,(⟨e11_0.2.1.1.2.2.1,e11_0.2.1.1.2.2.2.1⟩:Result)⟩:nY),e11_0.1.2)) (λ_=>some ((⟨0,0,(⟨false,0⟩:Result)⟩:nY),false,())) e11
def Uu[dL] :=FB 184 Tryz.f184 V9 [.st .session,.b] (λx=>GS x.1 x.2.1) [] [SF] (by kernel_rfl) λx=>by simp only[GS,tm];kernel_rfl
abbrev PQ:LX:=⟨⟨[PK,OT,Wa,UI,QA,Wb,PL],[Wi,UO,UP,UQ,UP],UR,0,127⟩,[(.ext 0,⟨[PK,OT,Wa,UI,QA,Wb,PL],[Wi,UO,UP,UQ,UP],UR,0,127⟩)],[],[3,4,5,7,9,11,12],[3,4,5,7,9,11,12]⟩
def IK(s:Zc×(Zd×TL×YA×TL×YA×Unit)×List Int×List nY×Unit):PQ.R:=
 br (decide (s.1.2.2.2.2.2.2.1< (s.2.2.2.1.length:Int))) (iteP (0<=s.1.2.2.2.2.2.2.1/\s.1.2.2.2.2.2.2.1< (s.2.2.2.1.length:Int)) ((s.2.2.2.1[s.1.2.2.2.2.2.2.1.toNat]?).bind λx22=>br (decide (x22.client<s.2.1.1.1)) (some (.inl (((),(),(),(),s.1.2.2.2.2.1,(),(IntKind.wrap .i64 (s.1.2.2.2.2.2.2.1+1)),()),s.2))) (some (.inr s))) none) (some (.inr s))
def Ls:=md IK
def TT[dL] :=Ib Tryz.f116 [0] PQ IK [] [] (by kernel_rfl) λs=>by simp only[IK,tm];kernel_rfl
def IT(a0:nX)(a1:Op):Option (nX×Result×Bool×Unit):=
 (LK a0).bind λy1=>(FV a0).bind λy2=>br (!y2.1) (some (y1.1,(⟨false,0⟩:Result),false,())) ((FD a1).bind λy3=>br (!y3.1) (some (y1.1,(⟨false,0⟩:Result),false,())) ((GS a0 a1.client).bind λy4=>let j45:Option (nX×Result×Bool×Unit):=let j44:Option (nX×Result×Bool×Unit):=iteP (0<=a1.object) ((a0.objects[a1.object.toNat]?).bind λx5=>br (a1.kind==1) (iteP (0<=a1.object/\a1.object< (y1.1.objects.length:Int)) ((y1.1.objects[a1.object.toNat]?).bind λ_=>(Ls (((),(),(),(),y4.2.1,(),0,()),((a1.client,a1.seq,a1.kind,a1.object,a1.old,a1.value,()),((),(),()),(false,0,()),((),(),()),(true,x5,()),()),(y1.1.objects.set a1.object.toNat a1.value),y1.1.sessions,())).bind λe23=>iteP (0<=e23.1.2.2.2.2.2.2.1/\e23.1.2.2.2.2.2.2.1<=(e23.2.2.2.1.length:Int)/\(e23.2.2.2.1.length:Int)<=((e23.2.2.2.1.length:Nat):Int)) (br e23.1.2.2.2.2.1 (iteP (0<=(IntKind.wrap .i64 (e23.1.2.2.2.2.2.2.1+1))/\(IntKind.wrap .i64 (e23.1.2.2.2.2.2.2.1+1))<=(e23.2.2.2.1.length:Int)/\(e23.2.2.2.1.length:Int)<=((e23.2.2.2.1.length:Nat):Int)) (iteP (0<=(0:Int)/\(0:Int)<=e23.1.2.2.2.2.2.2.1/\e23.1.2.2.2.2.2.2.1<=((e23.2.2.2.1.length:Nat):Int)) (iteP ((0+(0:Int).toNat)+(e23.1.2.2.2.2.2.2.1.toNat-(0:Int).toNat)<=e23.2.2.2.1.length) (iteP ((([]:List nY)++((e23.2.2.2.1.drop (0+(0:Int).toNat)).take (e23.1.2.2.2.2.2.2.1.toNat-(0:Int).toNat))).length*32<=2 ^ 40) (iteP (((([]:List nY)++((e23.2.2.2.1.drop (0+(0:Int).toNat)).take (e23.1.2.2.2.2.2.2.1.toNat-(0:Int).toNat)))++([(⟨e23.2.1.1.1,e23.2.1.1.2.1,(⟨e23.2.1.2.2.2.2.1.1,e23.2.1.2.2.2.2.1.2.1⟩:Result)⟩:nY)]:List nY)).length*32<=2 ^ 40) (iteP ((0+(IntKind.wrap .i64 (e23.1.2.2.2.2.2.2.1+1)).toNat)+((e23.2.2.2.1.length:Int).toNat-(IntKind.wrap .i64 (e23.1.2.2.2.2.2.2.1+1)).toNat)<=e23.2.2.2.1.length) (iteP ((((([]:List nY)++((e23.2.2.2.1.drop (0+(0:Int).toNat)).take (e23.1.2.2.2.2.2.2.1.toNat-(0:Int).toNat)))++([(⟨e23.2.1.1.1,e23.2.1.1.2.1,(⟨e23.2.1.2.2.2.2.1.1,e23.2.1.2.2.2.2.1.2.1⟩:Result)⟩:nY)]:List nY))++((e23.2.2.2.1.drop (0+(IntKind.wrap .i64 (e23.1.2.2.2.2.2.2.1+1)).toNat)).take ((e23.2.2.2.1.length:Int).toNat-(IntKind.wrap .i64 (e23.1.2.2.2.2.2.2.1+1)).toNat))).length*32<=2 ^ 40) (some ((⟨e23.2.2.1,(((([]:List nY)++((e23.2.2.2.1.drop (0+(0:Int).toNat)).take (e23.1.2.2.2.2.2.2.1.toNat-(0:Int).toNat)))++([(⟨e23.2.1.1.1,e23.2.1.1.2.1,(⟨e23.2.1.2.2.2.2.1.1,e23.2.1.2.2.2.2.1.2.1⟩:Result)⟩:nY)]:List nY))++((e23.2.2.2.1.drop (0+(IntKind.wrap .i64 (e23.1.2.2.2.2.2.2.1+1)).toNat)).take ((e23.2.2.2.1.length:Int).toNat-(IntKind.wrap .i64 (e23.1.2.2.2.2.2.2.1+1)).toNat)))⟩:nX),(⟨e23.2.1.2.2.2.2.1.1,e23.2.1.2.2.2.2.1.2.1⟩:Result),true,())) none) none) none) none) none) none) none) (iteP (0<=(0:Int)/\(0:Int)<=e23.1.2.2.2.2.2.2.1/\e23.1.2.2.2.2.2.2.1<=((e23.2.2.2.1.length:Nat):Int)) (iteP ((0+(0:Int).toNat)+(e23.1.2.2.2.2.2.2.1.toNat-(0:Int).toNat)<=e23.2.2.2.1.length) (iteP ((([]:List nY)++((e23.2.2.2.1.drop (0+(0:Int).toNat)).take (e23.1.2.2.2.2.2.2.1.toNat-(0:Int).toNat))).length*32<=2 ^ 40) (iteP (((([]:List nY)++((e23.2.2.2.1.drop (0+(0:Int).toNat)).take (e23.1.2.2.2.2.2.2.1.toNat-(0:Int).toNat)))++([(⟨e23.2.1.1.1,e23.2.1.1.2.1,(⟨e23.2.1.2.2.2.2.1.1,e23.2.1.2.2.2.2.1.2.1⟩:Result)⟩:nY)]:List nY)).length*32<=2 ^ 40) (iteP ((0+e23.1.2.2.2.2.2.2.1.toNat)+((e23.2.2.2.1.length:Int).toNat-e23.1.2.2.2.2.2.2.1.toNat)<=e23.2.2.2.1.length) (iteP ((((([]:List nY)++((e23.2.2.2.1.drop (0+(0:Int).toNat)).take (e23.1.2.2.2.2.2.2.1.toNat-(0:Int).toNat)))++([(⟨e23.2.1.1.1,e23.2.1.1.2.1,(⟨e23.2.1.2.2.2.2.1.1,e23.2.1.2.2.2.2.1.2.1⟩:Result)⟩:nY)]:List nY))++((e23.2.2.2.1.drop (0+e23.1.2.2.2.2.2.2.1.toNat)).take ((e23.2.2.2.1.length:Int).toNat-e23.1.2.2.2.2.2.2.1.toNat))).length*32<=2 ^ 40) (some ((⟨e23.2.2.1,(((([]:List nY)++((e23.2.2.2.1.drop (0+(0:Int).toNat)).take (e23.1.2.2.2.2.2.2.1.toNat-(0:Int).toNat)))++([(⟨e23.2.1.1.1,e23.2.1.1.2.1,(⟨e23.2.1.2.2.2.2.1.1,e23.2.1.2.2.2.2.1.2.1⟩:Result)⟩:nY)]:List nY))++((e23.2.2.2.1.drop (0+e23.1.2.2.2.2.2.2.1.toNat)).take ((e23.2.2.2.1.length:Int).toNat-e23.1.2.2.2.2.2.2.1.toNat)))⟩:nX),(⟨e23.2.1.2.2.2.2.1.1,e23.2.1.2.2.2.2.1.2.1⟩:Result),true,())) none) none) none) none) none) none)) none) none) (let j43 (p26:List Int):Option (nX×Result×Bool×Unit):=(Ls (((),(),(),(),y4.2.1,(),0,()),((a1.client,a1.seq,a1.kind,a1.object,a1.old,a1.value,()),((),(),()),(false,0,()),((),(),()),((x5==a1.old),x5,()),()),p26,y1.1.sessions,())).bind λe42=>iteP (0<=e42.1.2.2.2.2.2.2.1/\e42.1.2.2.2.2.2.2.1<=(e42.2.2.2.1.length:Int)/\(e42.2.2.2.1.length:Int)<=((e42.2.2.2.1.length:Nat):Int)) (br e42.1.2.2.2.2.1 (iteP (0<=(IntKind.wrap .i64 (e42.1.2.2.2.2.2.2.1+1))/\(IntKind.wrap .i64 (e42.1.2.2.2.2.2.2.1+1))<=(e42.2.2.2.1.length:Int)/\(e42.2.2.2.1.length:Int)<=((e42.2.2.2.1.length:Nat):Int)) (iteP (0<=(0:Int)/\(0:Int)<=e42.1.2.2.2.2.2.2.1/\e42.1.2.2.2.2.2.2.1<=((e42.2.2.2.1.length:Nat):Int)) (iteP ((0+(0:Int).toNat)+(e42.1.2.2.2.2.2.2.1.toNat-(0:Int).toNat)<=e42.2.2.2.1.length) (iteP ((([]:List nY)++((e42.2.2.2.1.drop (0+(0:Int).toNat)).take (e42.1.2.2.2.2.2.2.1.toNat-(0:Int).toNat))).length*32<=2 ^ 40) (iteP (((([]:List nY)++((e42.2.2.2.1.drop (0+(0:Int).toNat)).take (e42.1.2.2.2.2.2.2.1.toNat-(0:Int).toNat)))++([(⟨e42.2.1.1.1,e42.2.1.1.2.1,(⟨e42.2.1.2.2.2.2.1.1,e42.2.1.2.2.2.2.1.2.1⟩:Result)⟩:nY)]:List nY)).length*32<=2 ^ 40) (iteP ((0+(IntKind.wrap .i64 (e42.1.2.2.2.2.2.2.1+1)).toNat)+((e42.2.2.2.1.length:Int).toNat-(IntKind.wrap .i64 (e42.1.2.2.2.2.2.2.1+1)).toNat)<=e42.2.2.2.1.length) (iteP ((((([]:List nY)++((e42.2.2.2.1.drop (0+(0:Int).toNat)).take (e42.1.2.2.2.2.2.2.1.toNat-(0:Int).toNat)))++([(⟨e42.2.1.1.1,e42.2.1.1.2.1,(⟨e42.2.1.2.2.2.2.1.1,e42.2.1.2.2.2.2.1.2.1⟩:Result)⟩:nY)]:List nY))++((e42.2.2.2.1.drop (0+(IntKind.wrap .i64 (e42.1.2.2.2.2.2.2.1+1)).toNat)).take ((e42.2.2.2.1.length:Int).toNat-(IntKind.wrap .i64 (e42.1.2.2.2.2.2.2.1+1)).toNat))).length*32<=2 ^ 40) (some ((⟨e42.2.2.1,(((([]:List nY)++((e42.2.2.2.1.drop (0+(0:Int).toNat)).take (e42.1.2.2.2.2.2.2.1.toNat-(0:Int).toNat)))++([(⟨e42.2.1.1.1,e42.2.1.1.2.1,(⟨e42.2.1.2.2.2.2.1.1,e42.2.1.2.2.2.2.1.2.1⟩:Result)⟩:nY)]:List nY))++((e42.2.2.2.1.drop (0+(IntKind.wrap .i64 (e42.1.2.2.2.2.2.2.1+1)).toNat)).take ((e42.2.2.2.1.length:Int).toNat-(IntKind.wrap .i64 (e42.1.2.2.2.2.2.2.1+1)).toNat)))⟩:nX),(⟨e42.2.1.2.2.2.2.1.1,e42.2.1.2.2.2.2.1.2.1⟩:Result),true,())) none) none) none) none) none) none) none) (iteP (0<=(0:Int)/\(0:Int)<=e42.1.2.2.2.2.2.2.1/\e42.1.2.2.2.2.2.2.1<=((e42.2.2.2.1.length:Nat):Int)) (iteP ((0+(0:Int).toNat)+(e42.1.2.2.2.2.2.2.1.toNat-(0:Int).toNat)<=e42.2.2.2.1.length) (iteP ((([]:List nY)++((e42.2.2.2.1.drop (0+(0:Int).toNat)).take (e42.1.2.2.2.2.2.2.1.toNat-(0:Int).toNat))).length*32<=2 ^ 40) (iteP (((([]:List nY)++((e42.2.2.2.1.drop (0+(0:Int).toNat)).take (e42.1.2.2.2.2.2.2.1.toNat-(0:Int).toNat)))++([(⟨e42.2.1.1.1,e42.2.1.1.2.1,(⟨e42.2.1.2.2.2.2.1.1,e42.2.1.2.2.2.2.1.2.1⟩:Result)⟩:nY)]:List nY)).length*32<=2 ^ 40) (iteP ((0+e42.1.2.2.2.2.2.2.1.toNat)+((e42.2.2.2.1.length:Int).toNat-e42.1.2.2.2.2.2.2.1.toNat)<=e42.2.2.2.1.length) (iteP ((((([]:List nY)++((e42.2.2.2.1.drop (0+(0:Int).toNat)).take (e42.1.2.2.2.2.2.2.1.toNat-(0:Int).toNat)))++([(⟨e42.2.1.1.1,e42.2.1.1.2.1,(⟨e42.2.1.2.2.2.2.1.1,e42.2.1.2.2.2.2.1.2.1⟩:Result)⟩:nY)]:List nY))++((e42.2.2.2.1.drop (0+e42.1.2.2.2.2.2.2.1.toNat)).take ((e42.2.2.2.1.length:Int).toNat-e42.1.2.2.2.2.2.2.1.toNat))).length*32<=2 ^ 40) (some ((⟨e42.2.2.1,(((([]:List nY)++((e42.2.2.2.1.drop (0+(0:Int).toNat)).take (e42.1.2.2.2.2.2.2.1.toNat-(0:Int).toNat)))++([(⟨e42.2.1.1.1,e42.2.1.1.2.1,(⟨e42.2.1.2.2.2.2.1.1,e42.2.1.2.2.2.2.1.2.1⟩:Result)⟩:nY)]:List nY))++((e42.2.2.2.1.drop (0+e42.1.2.2.2.2.2.2.1.toNat)).take ((e42.2.2.2.1.length:Int).toNat-e42.1.2.2.2.2.2.2.1.toNat)))⟩:nX),(⟨e42.2.1.2.2.2.2.1.1,e42.2.1.2.2.2.2.1.2.1⟩:Result),true,())) none) none) none) none) none) none)) none;br (x5==a1.old) (iteP (0<=a1.object/\a1.object< (y1.1.objects.length:Int)) ((y1.1.objects[a1.object.toNat]?).bind λ_=>j43 (y1.1.objects.set a1.object.toNat a1.value)) none) (j43 y1.1.objects))) none;br y4.2.1 (br (decide (y4.1.seq>a1.seq)) (some (y1.1,(⟨false,0⟩:Result),false,())) (j44)) (j44);br y4.2.1 (br (y4.1.seq==a1.seq) (some (y1.1,y4.1.result,true,())) (j45)) (j45)))
def P4[dL] :=FB 116 Tryz.f116 YU Zj (λx=>IT x.1 x.2.1) [Xt,MT,K3,Uu] [TT] (by kernel_rfl) λx=>by simp only[IT,tm];kernel_rfl
abbrev O0:LX:=⟨⟨[Mh,N7,OT,Nr],[UO,UQ],UR,0,29⟩,[(.ext 0,⟨[N7,OT],[UO,UQ],UR,0,29⟩)],[],[0,2,4,5],[2,4]⟩
def Hy(s: (List sf×Unit×Unit×Int×Unit)×(TL×TL×Unit)×List Int×List nY×Unit):O0.R:=
 br (decide (s.1.2.2.2.1< (s.1.1.length:Int))) (iteP (0<=s.1.2.2.2.1) ((s.1.1[s.1.2.2.2.1.toNat]?).bind λx7=>(IT (⟨s.2.2.1,s.2.2.2.1⟩:nX) x7.op).bind λy8=>some (.inl ((s.1.1,(),(),(IntKind.wrap .i64 (s.1.2.2.2.1+1)),()),(((),(),()),((),(),()),()),y8.1.objects,y8.1.sessions,()))) none) (some (.inr (((),(),()),s.2)))
def OQ:=md Hy
def SD[dL] :=Ib Tryz.f39 [0] O0 Hy [P4] [] (by kernel_rfl) λs=>by simp only[Hy,tm];kernel_rfl
def Gt(a0:List sf):Option (nX×Bool×Unit):=
 (JY).bind λy1=>(FZ a0).bind λy2=>br (!y2.1) (some ((⟨([]:List Int),([]:List nY)⟩:nX),false,())) ((OQ ((a0,(),(),0,()),(((),(),()),((),(),()),()),y1.1.objects,y1.1.sessions,())).bind λe9=>some ((⟨e9.2.2.1,e9.2.2.2.1⟩:nX),true,()))
def Me[dL] :=FB 39 Tryz.f39 Qf [.st .machine,.b] (λx=>Gt x.1) [Ts,Lq] [SD] (by kernel_rfl) λx=>by simp only[Gt,tm];kernel_rfl
def Io(a0:Op):Option (Bool×Unit):=
 some ((a0.kind==2),())
def OK[dL] :=FB 204 Tryz.f204 V7 [.b] (λx=>Io x.1) [] [] (by kernel_rfl) λx=>by simp only[Io,tm];kernel_rfl
def Gn(a0:qN)(a1:Int):Option (Bool×Unit):=
 (Fg a0).bind λy1=>br y1.1 ((Fi a1 0 4).bind λy2=>br y2.1 (iteP (0<=a1) ((a0.servers[a1.toNat]?).bind λx3=>(FT x3 a1).bind λy4=>some (y4.1,())) none) (some (false,()))) (some (false,()))
def Lr[dL] :=FB 112 Tryz.f112 LU [.b] (λx=>Gn x.1 x.2.1) [Fk,FF,HS] [] (by kernel_rfl) λx=>by simp only[Gn,tm];kernel_rfl
abbrev M8:LX:=⟨⟨[NI,PI,MZ,Mg],[],Ir,0,34⟩,[(.ext 0,⟨[PI,MZ],[],Ir,0,34⟩)],[],[0,1,5,6],[1,5]⟩
def GX(s:XJ×Unit×List Int×Unit):M8.R:=
 br (decide (s.1.2.2.2.1< (s.1.1.length:Int))) (iteP (0<=s.1.2.2.2.1) ((s.1.1[s.1.2.2.2.1.toNat]?).bind λx5=>(HE s.2.2.1 x5).bind λy6=>some (.inl ((s.1.1,s.1.2.1,(),(IntKind.wrap .i64 (s.1.2.2.2.1+1)),()),(()),y6.1,()))) none) (some (.inr ((s.1.2.1,(),()),(()),s.2.2)))
def MX:=md GX
def Ql[dL] :=Ib Tryz.f192 [0] M8 GX [Nn] [] (by kernel_rfl) λs=>by simp only[GX,tm];kernel_rfl
abbrev M9:LX:=⟨⟨[PI,MZ,Pd],[],Ir,0,34⟩,[(.ext 2,⟨[MZ],[],Ir,0,34⟩)],[],[1,5,7],[5]⟩
def GY(s:Ze×Unit×List Int×Unit):M9.R:=
 br (decide (s.1.2.2.1< (s.1.1.length:Int))) (iteP (0<=s.1.2.2.1) ((s.1.1[s.1.2.2.1.toNat]?).bind λx11=>(HE s.2.2.1 x11).bind λy12=>some (.inl ((s.1.1,(),(IntKind.wrap .i64 (s.1.2.2.1+1)),()),(()),y12.1,()))) none) (some (.inr (((),()),(()),s.2.2)))
def MY:=md GY
def Qm[dL] :=Ib Tryz.f192 [1] M9 GY [Nn] [] (by kernel_rfl) λs=>by simp only[GY,tm];kernel_rfl
def IA(a0:List Int)(a1:List Int):Option ((List Int)×Unit):=
 (MX ((a0,a1,(),0,()),(()),([]:List Int),())).bind λe7=>(MY ((e7.1.1,(),0,()),(()),e7.2.2)).bind λe13=>some e13.2.2
def Rt[dL] :=FB 192 Tryz.f192 UG Lt (λx=>IA x.1 x.2.1) [] [Ql,Qm] (by kernel_rfl) λx=>by simp only[IA,tm];kernel_rfl
def Ge(a0:om):Option ((List Int)×Unit):=
 (Fm a0).bind λy1=>br (!y1.1) (some (([]:List Int),())) ((IA a0.replicas a0.witnesses).bind λy2=>some (y2.1,()))
def IC[dL] :=FB 120 Tryz.f120 WO Lt (λx=>Ge x.1) [Jn,Rt] [] (by kernel_rfl) λx=>by simp only[Ge,tm];kernel_rfl
abbrev NF:LX:=⟨⟨[N7,Nr,(6,.cl (.own 0 (.i .i64))),Pd],[K8],Ir,0,37⟩,[(.ext 0,⟨[Nr],[],[],0,37⟩)],[],[2,5,6,7],[5]⟩
def Jh(s:Zf×(N8×Unit)×List Int×Unit):NF.R:=
 br (decide (s.1.2.2.2.1< (s.2.2.1.length:Int))) (iteP (0<=s.1.2.2.2.1/\s.1.2.2.2.1< (s.2.2.1.length:Int)) ((s.2.2.1[s.1.2.2.2.1.toNat]?).bind λx17=>iteP (0<=x17) ((s.2.1.1.2.1[x17.toNat]?).bind λx18=>some (.inl (((),(if x18.version<s.1.2.1 then x18.version else s.1.2.1),(),(IntKind.wrap .i64 (s.1.2.2.2.1+1)),()),s.2))) none) none) (some (.inr ((s.1.2.1,()),(()),(()))))
def QS:=md Jh
def QX[dL] :=Ib Tryz.f50 [0] NF Jh [] [] (by kernel_rfl) λs=>by simp only[Jh,tm];kernel_rfl
def I8(a0:qN)(a1:Int):Option (Int×Unit):=
 (Gn a0 a1).bind λy1=>br (!y1.1) (some (0,())) (iteP (0<=a1) ((a0.servers[a1.toNat]?).bind λx2=>(Ge x2.config).bind λy3=>(QS (((),2,(),0,()),((a0.now,a0.servers,a0.sides,a0.master.configs,a0.master.activated,a0.masterUp,a0.lease.epoch,a0.lease.holder,a0.lease.ends,a0.places,()),()),y3.1,())).bind λe19=>some e19.1) none)
def Se[dL] :=FB 50 Tryz.f50 LU Kz (λx=>I8 x.1 x.2.1) [Lr,IC] [QX] (by kernel_rfl) λx=>by simp only[I8,tm];kernel_rfl
def Hl(a0:qN)(a1:Int)(a2:Op):Option (qN×Int×Unit):=
 (FA a0).bind λy1=>(Fg a0).bind λy2=>br (!y2.1) (some (y1.1,1,())) ((Fi a1 0 4).bind λy3=>br (!y3.1) (some (y1.1,1,())) ((FD a2).bind λy4=>br (!y4.1) (some (y1.1,1,())) (iteP (0<=a1) ((a0.servers[a1.toNat]?).bind λx5=>br (!x5.up) (some (y1.1,2,())) ((FT x5 a1).bind λy6=>br (!y6.1) (some (y1.1,3,())) ((MD x5.log a2.client a2.seq).bind λy7=>let j18:Option (qN×Int×Unit):=(Gt x5.log).bind λy9=>(IT y9.1 a2).bind λy10=>br (!y10.2.2.1) (some (y1.1,11,())) ((Io a2).bind λy11=>let j17:Option (qN×Int×Unit):=iteP (0<=a1/\a1< (y1.1.servers.length:Int)) ((y1.1.servers[a1.toNat]?).bind λx13=>(y1.1.servers[a1.toNat]?).bind λx14=>iteP ((0:Nat)=0) (iteP (x14.log.length<x13.log.length) none (iteP ((x14.log.take x13.log.length++([(⟨x5.epoch,a2⟩:sf)]:List sf)).length*56<=2 ^ 40) (iteP (0<=a1/\a1< (y1.1.servers.length:Int)) ((y1.1.servers[a1.toNat]?).bind λx15=>iteP (a1.toNat=a1.toNat) (some ((⟨y1.1.now,(y1.1.servers.set a1.toNat (⟨x15.up,x15.intact,x15.version,x15.epoch,x15.config,x15.first,(x14.log.take x13.log.length++([(⟨x5.epoch,a2⟩:sf)]:List sf)),x15.commit,x15.learned⟩:qQ)),y1.1.sides,y1.1.master,y1.1.masterUp,y1.1.lease,y1.1.places⟩:qN),0,())) none) none) none)) none) none;br y11.1 ((I8 a0 a1).bind λy12=>br (decide (y12.1<2)) (some (y1.1,6,())) (br ((x5.log.length:Int)==16) (some (y1.1,5,())) (j17))) (br ((x5.log.length:Int)==16) (some (y1.1,5,())) (j17)));br (decide (y7.1≥0)) (iteP (0<=y7.1) ((x5.log[y7.1.toNat]?).bind λx8=>br (!((x8.op.client==a2.client)&&((x8.op.seq==a2.seq)&&((x8.op.kind==a2.kind)&&((x8.op.object==a2.object)&&((x8.op.old==a2.old)&&((x8.op.value==a2.value)&&true))))))) (some (y1.1,11,())) (br (decide (y7.1≥0)) (some (y1.1,0,())) (j18))) none) (br (decide (y7.1≥0)) (some (y1.1,0,())) (j18))))) none)))
def Pz[dL] :=FB 268 Tryz.f268 YV N9 (λx=>Hl x.1 x.2.1 x.2.2.1) [FX,Fk,FF,K3,HS,Uq,Me,P4,OK,Se] [] (by kernel_rfl) λx=>by simp only[Hl,tm,-eq_self];kernel_rfl
def GM(a0:List Int)(a1:Int)(a2:Int):Option (Bool×Unit):=
 (G3 a0).bind λy1=>br y1.1 ((Fi a1 0 4).bind λy2=>br y2.1 ((Fi a2 0 4).bind λy3=>br y3.1 (iteP (0<=a1) ((a0[a1.toNat]?).bind λx4=>iteP (0<=a2) ((a0[a2.toNat]?).bind λx5=>some ((x4==x5),())) none) none) (some (false,()))) (some (false,()))) (some (false,()))
def Kt[dL] :=FB 97 Tryz.f97 YW [.b] (λx=>GM x.1 x.2.1 x.2.2.1) [Nm,FF] [] (by kernel_rfl) λx=>by simp only[GM,tm];kernel_rfl
def Kq(a0:qN)(a1:Int)(a2:Int):Option (Bool×Unit):=
 iteP (0<=a2) ((a0.servers[a2.toNat]?).bind λx1=>(GM a0.sides a1 a2).bind λy2=>br y2.1 (br x1.up (iteP (0<=a1) ((a0.servers[a1.toNat]?).bind λx3=>br (x1.epoch==x3.epoch) (iteP (0<=a1) ((a0.servers[a1.toNat]?).bind λx4=>br (decide (x1.commit<=(x4.log.length:Int))) (iteP (0<=a1) ((a0.servers[a1.toNat]?).bind λx5=>(Gm x1.config x5.config).bind λy6=>some (y6.1,())) none) (some (false,()))) none) (some (false,()))) none) (some (false,()))) (some (false,()))) none
def Ru[dL] :=FB 128 Tryz.f128 RG [.b] (λx=>Kq x.1 x.2.1 x.2.2.1) [Kt,J4] [] (by kernel_rfl) λx=>by simp only[Kq,tm];kernel_rfl
def Ou(a0:List sf):Option (Int×(List sf)×Unit):=
 (FZ a0).bind λy1=>br (!y1.1) (some (0,([]:List sf),())) (iteP (0<=(if (IntKind.wrap .i64 ((a0.length:Int)-3))>0 then (IntKind.wrap .i64 ((a0.length:Int)-3)) else 0)/\(if (IntKind.wrap .i64 ((a0.length:Int)-3))>0 then (IntKind.wrap .i64 ((a0.length:Int)-3)) else 0)<=(a0.length:Int)/\(a0.length:Int)<=(a0.length:Int)) ((Gx ((a0.drop (if (IntKind.wrap .i64 ((a0.length:Int)-3))>0 then (IntKind.wrap .i64 ((a0.length:Int)-3)) else 0).toNat).take ((a0.length:Int).toNat-(if (IntKind.wrap .i64 ((a0.length:Int)-3))>0 then (IntKind.wrap .i64 ((a0.length:Int)-3)) else 0).toNat))).bind λy2=>some ((if (IntKind.wrap .i64 ((a0.length:Int)-3))>0 then (IntKind.wrap .i64 ((a0.length:Int)-3)) else 0),y2.1,())) none)
def WD[dL] :=FB 197 Tryz.f197 Qf Zk (λx=>Ou x.1) [Lq,Jc] [] (by kernel_rfl) λx=>by simp only[Ou,tm];kernel_rfl
def NT(a0:List sf):Option (Int×(List sf)×Unit):=
 (Ou a0).bind λy1=>some (y1.1,y1.2.1,())
def Xq[dL] :=FB 129 Tryz.f129 Qf Zk (λx=>NT x.1) [WD] [] (by kernel_rfl) λx=>by simp only[NT,tm];kernel_rfl
def Iz(a0:qN)(a1:Int)(a2:Int):Option (qN×Bool×Unit):=
 (FA a0).bind λy1=>(Gn a0 a1).bind λy2=>br (!y2.1) (some (y1.1,false,())) (iteP (0<=a1) ((a0.servers[a1.toNat]?).bind λx3=>(Ge x3.config).bind λy4=>(FC y4.1 a2).bind λy5=>br (!y5.1) (some (y1.1,false,())) ((Kq a0 a1 a2).bind λy6=>br (!y6.1) (some (y1.1,false,())) (iteP (0<=a1) ((a0.servers[a1.toNat]?).bind λx7=>iteP (0<=a1) ((a0.servers[a1.toNat]?).bind λx8=>(GD x8.config a2).bind λy9=>br (y9.1==3) ((NT x7.log).bind λy10=>iteP (0<=a2/\a2< (y1.1.servers.length:Int)) (iteP (0<=a2/\a2< (y1.1.servers.length:Int)) ((y1.1.servers[a2.toNat]?).bind λx11=>let z12:=y1.1.servers.set a2.toNat (⟨x11.up,x11.intact,x11.version,x11.epoch,x11.config,y10.1,x11.log,x11.commit,x11.learned⟩:qQ);(z12[a2.toNat]?).bind λx13=>some ((⟨y1.1.now,(z12.set a2.toNat (⟨x13.up,x13.intact,x13.version,x13.epoch,x13.config,x13.first,y10.2.1,x13.commit,x13.learned⟩:qQ)),y1.1.sides,y1.1.master,y1.1.masterUp,y1.1.lease,y1.1.places⟩:qN),true,())) none) none) ((Gx x7.log).bind λy15=>iteP (0<=a2/\a2< (y1.1.servers.length:Int)) ((y1.1.servers[a2.toNat]?).bind λx16=>some ((⟨y1.1.now,(y1.1.servers.set a2.toNat (⟨x16.up,x16.intact,x16.version,x16.epoch,x16.config,x16.first,y15.1,x16.commit,x16.learned⟩:qQ)),y1.1.sides,y1.1.master,y1.1.masterUp,y1.1.lease,y1.1.places⟩:qN),true,())) none)) none) none))) none)
def Rr[dL] :=FB 54 Tryz.f54 RG [.st .cluster,.b] (λx=>Iz x.1 x.2.1 x.2.2.1) [FX,Lr,IC,GU,Ru,LN,Xq,Jc] [] (by kernel_rfl) λx=>by simp only[Iz,tm];kernel_rfl
abbrev Ka:LX:=⟨⟨[K7,M1,ND,XF,UJ,(9,.cl (.int .i64))],[M3,SP],YD,0,74⟩,[(.ext 0,⟨[K7,M1,ND,XF,UJ],[M3,SP],YD,0,74⟩)],[],[1,4,6,7,8,9],[1,4,6,7,8]⟩
def It(s:XK×(Ns×Ns×Unit)×List Int×List qQ×List Int×List om×List vB×Unit):Ka.R:=
 br (decide (s.1.2.2.2.2.2.1< (s.2.2.1.length:Int))) (iteP (0<=s.1.2.2.2.2.2.1/\s.1.2.2.2.2.2.1< (s.2.2.1.length:Int)) ((s.2.2.1[s.1.2.2.2.2.2.1.toNat]?).bind λx25=>(Iz (⟨s.2.1.2.1.1,s.2.2.2.1,s.2.2.2.2.1,(⟨s.2.2.2.2.2.1,s.2.1.2.1.2.2.2.2.1⟩:kB),s.2.1.2.1.2.2.2.2.2.1,(⟨s.2.1.2.1.2.2.2.2.2.2.1,s.2.1.2.1.2.2.2.2.2.2.2.1,s.2.1.2.1.2.2.2.2.2.2.2.2.1⟩:vz),s.2.2.2.2.2.2.1⟩:qN) s.1.1 x25).bind λy26=>let j28 (p27:Bool):Ka.R:=some (.inl ((s.1.1,(),(),(),p27,(IntKind.wrap .i64 (s.1.2.2.2.2.2.1+1)),()),(s.2.1.1,(y26.1.now,(),(),(),y26.1.master.activated,y26.1.masterUp,y26.1.lease.epoch,y26.1.lease.holder,y26.1.lease.ends,(),()),()),s.2.2.1,y26.1.servers,y26.1.sides,y26.1.master.configs,y26.1.places,()));br s.1.2.2.2.2.1 (j28 y26.2.1) (j28 false)) none) (some (.inr ((s.1.1,(),(),(),s.1.2.2.2.2.1,()),s.2)))
def PG:=md It
def PV[dL] :=Ib Tryz.f46 [0] Ka It [Rr] [] (by kernel_rfl) λs=>by simp only[It,tm];kernel_rfl
abbrev LY:LX:=⟨⟨[K7,M1,ND,XF,UJ,PL],[M3,SP],YD,0,74⟩,[(.ext 2,⟨[M1,ND,UJ],[M3,VF],XP,0,74⟩)],[],[1,4,6,7,8,12],[4,6,8]⟩
def HU(s:XK×(Ns×Ns×Unit)×List Int×List qQ×List Int×List om×List vB×Unit):LY.R:=
 br (decide (s.1.2.2.2.2.2.1< (s.2.2.1.length:Int))) (br s.1.2.2.2.2.1 (iteP (0<=s.1.2.2.2.2.2.1/\s.1.2.2.2.2.2.1< (s.2.2.1.length:Int)) ((s.2.2.1[s.1.2.2.2.2.2.1.toNat]?).bind λx50=>iteP (0<=s.1.1/\s.1.1< (s.2.2.2.1.length:Int)) ((s.2.2.2.1[s.1.1.toNat]?).bind λx51=>iteP (0<=x50/\x50< (s.2.2.2.1.length:Int)) ((s.2.2.2.1[x50.toNat]?).bind λx52=>some (.inl ((s.1.1,(),(),(),s.1.2.2.2.2.1,(IntKind.wrap .i64 (s.1.2.2.2.2.2.1+1)),()),s.2.1,s.2.2.1,(s.2.2.2.1.set x50.toNat (⟨x52.up,x52.intact,x52.version,x52.epoch,x52.config,x52.first,x52.log,((x51.log.length:Nat):Int),x52.learned⟩:qQ)),s.2.2.2.2))) none) none) none) (some (.inr (((),(),s.1.2.2.2.2.1,()),s.2.1,s.2.2.2)))) (some (.inr (((),(),s.1.2.2.2.2.1,()),s.2.1,s.2.2.2)))
def Pb:=md HU
def Pi[dL] :=Ib Tryz.f46 [1] LY HU [] [] (by kernel_rfl) λs=>by simp only[HU,tm];kernel_rfl
def He(a0:qN)(a1:Int):Option (qN×Bool×Unit):=
 (FA a0).bind λy1=>(Gn a0 a1).bind λy2=>br (!y2.1) (some (y1.1,false,())) (iteP (0<=a1) ((a0.servers[a1.toNat]?).bind λx3=>(Ge x3.config).bind λy4=>(PG ((a1,(),(),(),true,0,()),((0,(),(),(),0,0,0,0,0,(),()),(y1.1.now,(),(),(),y1.1.master.activated,y1.1.masterUp,y1.1.lease.epoch,y1.1.lease.holder,y1.1.lease.ends,(),()),()),y4.1,y1.1.servers,y1.1.sides,y1.1.master.configs,y1.1.places,())).bind λe29=>(Pb ((e29.1.1,(),(),(),e29.1.2.2.2.2.1,0,()),e29.2)).bind λe54=>some ((⟨e54.2.1.2.1.1,e54.2.2.1,e54.2.2.2.1,(⟨e54.2.2.2.2.1,e54.2.1.2.1.2.2.2.2.1⟩:kB),e54.2.1.2.1.2.2.2.2.2.1,(⟨e54.2.1.2.1.2.2.2.2.2.2.1,e54.2.1.2.1.2.2.2.2.2.2.2.1,e54.2.1.2.1.2.2.2.2.2.2.2.2.1⟩:vz),e54.2.2.2.2.2.1⟩:qN),e54.1.2.2)) none)
def Nx[dL] :=FB 46 Tryz.f46 LU [.st .cluster,.b] (λx=>He x.1 x.2.1) [FX,Lr,IC] [PV,Pi] (by kernel_rfl) λx=>by simp only[He,tm];kernel_rfl
def Km(a0:List sf)(a1:Int):Option (Result×Bool×Unit):=
 (FZ a0).bind λy1=>br (!y1.1) (some ((⟨false,0⟩:Result),false,())) ((Fi a1 0 (IntKind.wrap .i64 ((a0.length:Int)-1))).bind λy2=>br (!y2.1) (some ((⟨false,0⟩:Result),false,())) (iteP (0<=(0:Int)/\(0:Int)<=a1/\a1<=(a0.length:Int)) ((Gt ((a0.drop (0:Int).toNat).take (a1.toNat-(0:Int).toNat))).bind λy3=>iteP (0<=a1) ((a0[a1.toNat]?).bind λx4=>(IT y3.1 x4.op).bind λy5=>some (y5.2.1,y5.2.2.1,())) none) none))
def Vn[dL] :=FB 270 Tryz.f270 XA [.st .result,.b] (λx=>Km x.1 x.2.1) [Lq,FF,Me,P4] [] (by kernel_rfl) λx=>by simp only[Km,tm];kernel_rfl
def LA(a0:qN)(a1:Int)(a2:Op):Option (qN×xB×Unit):=
 (Hl a0 a1 a2).bind λy1=>br (!(y1.2.1==0)) (some (y1.1,(⟨y1.2.1,(⟨false,0⟩:Result),0⟩:xB),())) (iteP (0<=a1/\a1< (y1.1.servers.length:Int)) ((y1.1.servers[a1.toNat]?).bind λx2=>(y1.1.servers[a1.toNat]?).bind λx3=>iteP (0+x2.log.length<=x3.log.length) ((MD ((x3.log.drop 0).take x2.log.length) a2.client a2.seq).bind λy4=>iteP (0<=a1/\a1< (y1.1.servers.length:Int)) ((y1.1.servers[a1.toNat]?).bind λx5=>br (decide (y4.1≥x5.commit)) ((He y1.1 a1).bind λy6=>br (!y6.2.1) (some (y6.1,(⟨4,(⟨false,0⟩:Result),0⟩:xB),())) (iteP (0<=a1/\a1< (y6.1.servers.length:Int)) ((y6.1.servers[a1.toNat]?).bind λx20=>(y6.1.servers[a1.toNat]?).bind λx21=>iteP (0+x20.log.length<=x21.log.length) ((Km ((x21.log.drop 0).take x20.log.length) y4.1).bind λy22=>some (y6.1,(⟨0,y22.1,y4.1⟩:xB),())) none) none)) (iteP (0<=a1/\a1< (y1.1.servers.length:Int)) ((y1.1.servers[a1.toNat]?).bind λx23=>(y1.1.servers[a1.toNat]?).bind λx24=>iteP (0+x23.log.length<=x24.log.length) ((Km ((x24.log.drop 0).take x23.log.length) y4.1).bind λy25=>some (y1.1,(⟨0,y25.1,y4.1⟩:xB),())) none) none)) none) none) none)
def Vi[dL] :=FB 251 Tryz.f251 YV Zl (λx=>LA x.1 x.2.1 x.2.2.1) [Pz,Uq,Nx,Vn] [] (by kernel_rfl) λx=>by simp only[LA,tm];kernel_rfl
def Ho(a0:qN)(a1:Int):Option (Int×Unit):=
 (Fg a0).bind λy1=>br (!y1.1) (some (1,())) ((Fi a1 0 4).bind λy2=>br (!y2.1) (some (1,())) (iteP (0<=a1) ((a0.servers[a1.toNat]?).bind λx3=>br (!x3.up) (some (2,())) (some (0,()))) none))
def NY[dL] :=FB 108 Tryz.f108 LU Kz (λx=>Ho x.1 x.2.1) [Fk,FF] [] (by kernel_rfl) λx=>by simp only[Ho,tm];kernel_rfl
def HY(a0:vz)(a1:Int)(a2:Int)(a3:Int):Option (Bool×Unit):=
 (GH a0).bind λy1=>br y1.1 ((Fi a3 0 999).bind λy2=>br y2.1 (br (decide (a0.ends>0)) (br (a0.epoch==a1) (br (a0.holder==a2) (some ((decide ((IntKind.wrap .i64 (a3+3))<a0.ends)),())) (some (false,()))) (some (false,()))) (some (false,()))) (some (false,()))) (some (false,()))
def Tm[dL] :=FB 113 Tryz.f113 YX [.b] (λx=>HY x.1 x.2.1 x.2.2.1 x.2.2.2.1) [MS,FF] [] (by kernel_rfl) λx=>by simp only[HY,tm];kernel_rfl
def F5(a0:qN)(a1:Int):Option (Bool×Unit):=
 (Gn a0 a1).bind λy1=>br y1.1 (iteP (0<=a1) ((a0.servers[a1.toNat]?).bind λx2=>(HY a0.lease x2.config.epoch a1 a0.now).bind λy3=>some (y3.1,())) none) (some (false,()))
def MR[dL] :=FB 38 Tryz.f38 LU [.b] (λx=>F5 x.1 x.2.1) [Lr,Tm] [] (by kernel_rfl) λx=>by simp only[F5,tm];kernel_rfl
def Fs(a0:qQ):Option ((List sf)×Unit):=
 (Fi a0.commit a0.first (IntKind.wrap .i64 (a0.first+(a0.log.length:Int)))).bind λy1=>br (!y1.1) (some (([]:List sf),())) (br (decide (a0.first<0)) (some (([]:List sf),())) (iteP (0<=(0:Int)/\(0:Int)<=(IntKind.wrap .i64 (a0.commit-a0.first))/\(IntKind.wrap .i64 (a0.commit-a0.first))<=(a0.log.length:Int)) ((Gx ((a0.log.drop (0:Int).toNat).take ((IntKind.wrap .i64 (a0.commit-a0.first)).toNat-(0:Int).toNat))).bind λy2=>some (y2.1,())) none))
def H9[dL] :=FB 40 Tryz.f40 XC VD (λx=>Fs x.1) [FF,Jc] [] (by kernel_rfl) λx=>by simp only[Fs,tm];kernel_rfl
def HZ(a0:nX)(a1:Int):Option (Int×Bool×Unit):=
 (FV a0).bind λy1=>br (!y1.1) (some (0,false,())) ((Fi a1 0 2).bind λy2=>br (!y2.1) (some (0,false,())) (iteP (0<=a1) ((a0.objects[a1.toNat]?).bind λx3=>some (x3,true,())) none))
def Tu[dL] :=FB 180 Tryz.f180 V9 [.i .i64,.b] (λx=>HZ x.1 x.2.1) [MT,FF] [] (by kernel_rfl) λx=>by simp only[HZ,tm];kernel_rfl
def H0(a0:qQ)(a1:Int):Option (xB×Unit):=
 (Fs a0).bind λy1=>(Gt y1.1).bind λy2=>(HZ y2.1 a1).bind λy3=>some ((⟨0,(⟨true,y3.1⟩:Result),a0.commit⟩:xB),())
def Rv[dL] :=FB 110 Tryz.f110 TJ WP (λx=>H0 x.1 x.2.1) [H9,Me,Tu] [] (by kernel_rfl) λx=>by simp only[H0,tm];kernel_rfl
def HT(a0:qN)(a1:Int)(a2:Int):Option (xB×Unit):=
 (Ho a0 a1).bind λy1=>br (!(y1.1==0)) (some ((⟨y1.1,(⟨false,0⟩:Result),0⟩:xB),())) ((Fi a2 0 2).bind λy2=>br (!y2.1) (some ((⟨1,(⟨false,0⟩:Result),0⟩:xB),())) (iteP (0<=a1) ((a0.servers[a1.toNat]?).bind λx3=>(FT x3 a1).bind λy4=>br (!y4.1) (some ((⟨3,(⟨false,0⟩:Result),0⟩:xB),())) ((F5 a0 a1).bind λy5=>br (!y5.1) (some ((⟨7,(⟨false,0⟩:Result),0⟩:xB),())) (iteP (0<=a1) ((a0.servers[a1.toNat]?).bind λx6=>(H0 x6 a2).bind λy7=>some (y7.1,())) none))) none))
def Qt[dL] :=FB 36 Tryz.f36 RG WP (λx=>HT x.1 x.2.1 x.2.2.1) [NY,FF,HS,MR,Rv] [] (by kernel_rfl) λx=>by simp only[HT,tm];kernel_rfl
def Kn(a0:vz):Option (Int×Unit):=
 (GH a0).bind λy1=>br (!y1.1) (some (0,())) (br (a0.ends==0) (some (0,())) (some ((IntKind.wrap .i64 (a0.ends+3)),())))
def Rs[dL] :=FB 145 Tryz.f145 Xy Kz (λx=>Kn x.1) [MS] [] (by kernel_rfl) λx=>by simp only[Kn,tm];kernel_rfl
def HA(a0:vz)(a1:Int):Option (Bool×Unit):=
 (GH a0).bind λy1=>br y1.1 ((Fi a1 0 999).bind λy2=>br y2.1 ((Kn a0).bind λy3=>some ((decide (a1≥y3.1)),())) (some (false,()))) (some (false,()))
def OL[dL] :=FB 66 Tryz.f66 [.ty (.st .lease),.ty (.i .i64)] [.b] (λx=>HA x.1 x.2.1) [MS,FF,Rs] [] (by kernel_rfl) λx=>by simp only[HA,tm];kernel_rfl
def JU(a0:vz)(a1:Int)(a2:Int)(a3:Int)(a4:Int):Option (vz×Bool×Unit):=
 br (a0.epoch==a1) ((GH a0).bind λy1=>br (!y1.1) (some (a0,false,())) ((Fi a1 1 20).bind λy2=>br (!y2.1) (some (a0,false,())) ((Fi a2 0 4).bind λy3=>br (!y3.1) (some (a0,false,())) ((Fi a3 0 999).bind λy4=>br (!y4.1) (some (a0,false,())) ((Fi a4 1 50).bind λy5=>br (!y5.1) (some (a0,false,())) ((HA a0 a3).bind λy6=>br (!y6.1) (br (!(a0.holder==a2)) (some (a0,false,())) (br (a0.holder==a2) (some ((⟨a1,a2,(if a0.ends>(IntKind.wrap .i64 (a3+a4)) then a0.ends else (IntKind.wrap .i64 (a3+a4)))⟩:vz),true,())) (some ((⟨a1,a2,(IntKind.wrap .i64 (a3+a4))⟩:vz),true,())))) (br (a0.holder==a2) (some ((⟨a1,a2,(if a0.ends>(IntKind.wrap .i64 (a3+a4)) then a0.ends else (IntKind.wrap .i64 (a3+a4)))⟩:vz),true,())) (some ((⟨a1,a2,(IntKind.wrap .i64 (a3+a4))⟩:vz),true,()))))))))) ((GH a0).bind λy10=>br (!y10.1) (some (a0,false,())) ((Fi a1 1 20).bind λy11=>br (!y11.1) (some (a0,false,())) ((Fi a2 0 4).bind λy12=>br (!y12.1) (some (a0,false,())) ((Fi a3 0 999).bind λy13=>br (!y13.1) (some (a0,false,())) ((Fi a4 1 50).bind λy14=>br (!y14.1) (some (a0,false,())) ((HA a0 a3).bind λy15=>br (!y15.1) (br (!false) (some (a0,false,())) (some ((⟨a1,a2,(IntKind.wrap .i64 (a3+a4))⟩:vz),true,()))) (some ((⟨a1,a2,(IntKind.wrap .i64 (a3+a4))⟩:vz),true,()))))))))
def Tl[dL] :=FB 292 Tryz.f292 [.ty (.st .lease),.ty (.i .i64),.ty (.i .i64),.ty (.i .i64),.ty (.i .i64)] [.st .lease,.b] (λx=>JU x.1 x.2.1 x.2.2.1 x.2.2.2.1 x.2.2.2.2.1) [MS,FF,OL] [] (by kernel_rfl) λx=>by simp only[JU,tm];kernel_rfl
def IV(a0:qN)(a1:Int)(a2:Int):Option (qN×Int×Unit):=
 (FA a0).bind λy1=>(Ho a0 a1).bind λy2=>br (!(y2.1==0)) (some (y1.1,y2.1,())) (iteP (0<=a1) ((a0.servers[a1.toNat]?).bind λx3=>(FT x3 a1).bind λy4=>br (!y4.1) (some (y1.1,3,())) (br (decide ((IntKind.wrap .i64 (a0.masterUp*2))<=3)) (some (y1.1,8,())) (iteP (0<=a1) ((a0.sides[a1.toNat]?).bind λx5=>br (!(x5==0)) (some (y1.1,8,())) (br (!(x3.config.epoch==(a0.master.configs.length:Int))) (some (y1.1,11,())) ((JU a0.lease x3.config.epoch a1 a0.now a2).bind λy6=>br (!y6.2.1) (some (y1.1,7,())) (some ((⟨y1.1.now,y1.1.servers,y1.1.sides,y1.1.master,y1.1.masterUp,y6.1,y1.1.places⟩:qN),0,()))))) none))) none)
def PC[dL] :=FB 271 Tryz.f271 RG N9 (λx=>IV x.1 x.2.1 x.2.2.1) [FX,NY,HS,Tl] [] (by kernel_rfl) λx=>by simp only[IV,tm];kernel_rfl
abbrev O3:LX:=⟨⟨[J9,QB,M2],[K8],Ir,0,28⟩,[(.ext 0,⟨[QB],[],Ir,0,28⟩)],[],[1,3,4],[3]⟩
def Ik(s:VB×(N8×Unit)×List Int×Unit):O3.R:=
 br (decide (s.1.2.2.1< (s.2.1.1.2.1.length:Int))) ((Fg (⟨s.2.1.1.1,s.2.1.1.2.1,s.2.1.1.2.2.1,(⟨s.2.1.1.2.2.2.1,s.2.1.1.2.2.2.2.1⟩:kB),s.2.1.1.2.2.2.2.2.1,(⟨s.2.1.1.2.2.2.2.2.2.1,s.2.1.1.2.2.2.2.2.2.2.1,s.2.1.1.2.2.2.2.2.2.2.2.1⟩:vz),s.2.1.1.2.2.2.2.2.2.2.2.2.1⟩:qN)).bind λy13=>br y13.1 (iteP (0<=s.1.2.2.1) ((s.2.1.1.2.1[s.1.2.2.1.toNat]?).bind λx14=>br x14.up (iteP ((s.2.2.1++([s.1.2.2.1]:List Int)).length*8<=2 ^ 40) (some (.inl (((),(),(IntKind.wrap .i64 (s.1.2.2.1+1)),()),s.2.1,(s.2.2.1++([s.1.2.2.1]:List Int)),()))) none) (some (.inl (((),(),(IntKind.wrap .i64 (s.1.2.2.1+1)),()),s.2)))) none) (some (.inr (((),()),(()),s.2.2)))) (some (.inr (((),()),(()),s.2.2)))
def OS:=md Ik
def SG[dL] :=Ib Tryz.f165 [0] O3 Ik [Fk] [] (by kernel_rfl) λs=>by simp only[Ik,tm];kernel_rfl
def KX(a0:qN):Option ((List Int)×Unit):=
 (OS (((),(),0,()),((a0.now,a0.servers,a0.sides,a0.master.configs,a0.master.activated,a0.masterUp,a0.lease.epoch,a0.lease.holder,a0.lease.ends,a0.places,()),()),([]:List Int),())).bind λe16=>some e16.2.2
def Uw[dL] :=FB 165 Tryz.f165 TH Lt (λx=>KX x.1) [] [SG] (by kernel_rfl) λx=>by simp only[KX,tm];kernel_rfl
abbrev Oe:LX:=⟨⟨[NI,QB,M2],[],Ir,0,26⟩,[(.ext 0,⟨[QB],[],Ir,0,26⟩)],[],[0,3,4],[3]⟩
def HG(s:Ze×Unit×List Int×Unit):Oe.R:=
 br (decide (s.1.2.2.1< (s.1.1.length:Int))) ((G3 s.1.1).bind λy4=>br y4.1 (iteP (0<=s.1.2.2.1) ((s.1.1[s.1.2.2.1.toNat]?).bind λx5=>br (x5==0) (iteP ((s.2.2.1++([s.1.2.2.1]:List Int)).length*8<=2 ^ 40) (some (.inl ((s.1.1,(),(IntKind.wrap .i64 (s.1.2.2.1+1)),()),(()),(s.2.2.1++([s.1.2.2.1]:List Int)),()))) none) (some (.inl ((s.1.1,(),(IntKind.wrap .i64 (s.1.2.2.1+1)),()),(()),s.2.2)))) none) (some (.inr (((),()),(()),s.2.2)))) (some (.inr (((),()),(()),s.2.2)))
def N3:=md HG
def RZ[dL] :=Ib Tryz.f166 [0] Oe HG [Nm] [] (by kernel_rfl) λs=>by simp only[HG,tm];kernel_rfl
def JV(a0:List Int):Option ((List Int)×Unit):=
 (N3 ((a0,(),0,()),(()),([]:List Int),())).bind λe7=>some e7.2.2
def To[dL] :=FB 166 Tryz.f166 VA Lt (λx=>JV x.1) [] [RZ] (by kernel_rfl) λx=>by simp only[JV,tm];kernel_rfl
def LI(a0:qN):Option ((List Int)×Unit):=
 (KX a0).bind λy1=>(JV a0.sides).bind λy2=>(GL y1.1 y2.1).bind λy3=>some (y3.1,())
def Vq[dL] :=FB 81 Tryz.f81 TH Lt (λx=>LI x.1) [Uw,To,K5] [] (by kernel_rfl) λx=>by simp only[LI,tm];kernel_rfl
def FU(a0:kB):Option (om×Bool×Unit):=
 (G4 a0 a0.activated).bind λy1=>some (y1.1,y1.2.1,())
def GN[dL] :=FB 78 Tryz.f78 UE XO (λx=>FU x.1) [O9] [] (by kernel_rfl) λx=>by simp only[FU,tm];kernel_rfl
abbrev L7:LX:=⟨⟨[NI,PI,MZ,Mg],[],Ir,0,28⟩,[(.ext 0,⟨[MZ],[],Ir,0,28⟩)],[],[0,1,5,6],[5]⟩
def GB(s:XJ×Unit×List Int×Unit):L7.R:=
 br (decide (s.1.2.2.2.1< (s.1.1.length:Int))) (iteP (0<=s.1.2.2.2.1) ((s.1.1[s.1.2.2.2.1.toNat]?).bind λx5=>(FC s.1.2.1 x5).bind λy6=>br (!y6.1) (iteP (0<=s.1.2.2.2.1) ((s.1.1[s.1.2.2.2.1.toNat]?).bind λx7=>(HE s.2.2.1 x7).bind λy8=>some (.inl ((s.1.1,s.1.2.1,(),(IntKind.wrap .i64 (s.1.2.2.2.1+1)),()),(()),y8.1,()))) none) (some (.inl ((s.1.1,s.1.2.1,(),(IntKind.wrap .i64 (s.1.2.2.2.1+1)),()),(()),s.2.2)))) none) (some (.inr (((),()),(()),s.2.2)))
def LQ:=md GB
def Po[dL] :=Ib Tryz.f254 [0] L7 GB [GU,Nn] [] (by kernel_rfl) λs=>by simp only[GB,tm];kernel_rfl
def FW(a0:List Int)(a1:List Int):Option ((List Int)×Unit):=
 (LQ ((a0,a1,(),0,()),(()),([]:List Int),())).bind λe10=>some e10.2.2
def Ku[dL] :=FB 254 Tryz.f254 UG Lt (λx=>FW x.1 x.2.1) [] [Po] (by kernel_rfl) λx=>by simp only[FW,tm];kernel_rfl
abbrev QE:LX:=⟨⟨[RI,PI,MZ,Mg],[],Ir,0,33⟩,[(.ext 0,⟨[MZ],[],Ir,0,33⟩)],[],[0,1,5,6],[5]⟩
def Mc(s: (List vB×List Int×Unit×Int×Unit)×Unit×List Int×Unit):QE.R:=
 br (decide (s.1.2.2.2.1< (s.1.2.1.length:Int))) ((FI s.1.1).bind λy5=>br y5.1 ((F4 s.1.2.1).bind λy6=>br y6.1 (iteP (0<=s.1.2.2.2.1) ((s.1.2.1[s.1.2.2.2.1.toNat]?).bind λx7=>iteP (0<=x7) ((s.1.1[x7.toNat]?).bind λx8=>(HE s.2.2.1 x8.rack).bind λy9=>some (.inl ((s.1.1,s.1.2.1,(),(IntKind.wrap .i64 (s.1.2.2.2.1+1)),()),(()),y9.1,()))) none) none) (some (.inr (((),()),(()),s.2.2)))) (some (.inr (((),()),(()),s.2.2)))) (some (.inr (((),()),(()),s.2.2)))
def UD:=md Mc
def UW[dL] :=Ib Tryz.f302 [0] QE Mc [K2,Lp,Nn] [] (by kernel_rfl) λs=>by simp only[Mc,tm];kernel_rfl
def MF(a0:List vB)(a1:List Int):Option ((List Int)×Unit):=
 (UD ((a0,a1,(),0,()),(()),([]:List Int),())).bind λe10=>some e10.2.2
def WF[dL] :=FB 302 Tryz.f302 [.ty (.ls (.st .place)),.ty (.ls (.i .i64))] Lt (λx=>MF x.1 x.2.1) [] [UW] (by kernel_rfl) λx=>by simp only[MF,tm];kernel_rfl
def ME(a0:List vB)(a1:Int):Option (Bool×Unit):=
 (FI a0).bind λy1=>br y1.1 ((Fi a1 0 4).bind λy2=>br y2.1 (iteP (0<=a1) ((a0[a1.toNat]?).bind λx3=>iteP (0<=a1) ((a0[a1.toNat]?).bind λx4=>some ((decide (x3.load<x4.capacity)),())) none) none) (some (false,()))) (some (false,()))
def WE[dL] :=FB 303 Tryz.f303 [.ty (.ls (.st .place)),.ty (.i .i64)] [.b] (λx=>ME x.1 x.2.1) [K2,FF] [] (by kernel_rfl) λx=>by simp only[ME,tm];kernel_rfl
def LL(a0:List vB)(a1:List Int)(a2:Int)(a3:Int):Option (Bool×Unit):=
 iteP (0<=a2) ((a0[a2.toNat]?).bind λx1=>(FC a1 x1.rack).bind λy2=>iteP (0<=a3) ((a0[a3.toNat]?).bind λx3=>(FC a1 x3.rack).bind λy4=>br (!(y2.1==y4.1)) (some (y4.1,())) (iteP (0<=a2) ((a0[a2.toNat]?).bind λx5=>iteP (0<=a3) ((a0[a3.toNat]?).bind λx6=>some ((decide (x5.load<x6.load)),())) none) none)) none) none
def Vt[dL] :=FB 304 Tryz.f304 [.ty (.ls (.st .place)),.ty (.ls (.i .i64)),.ty (.i .i64),.ty (.i .i64)] [.b] (λx=>LL x.1 x.2.1 x.2.2.1 x.2.2.2.1) [GU] [] (by kernel_rfl) λx=>by simp only[LL,tm];kernel_rfl
abbrev Mv:LX:=⟨⟨[RI,PI,(2,.cl (.ro (.i .i64))),Pd,Wc,(9,.cl (.int .i64))],[],Ir,0,46⟩,[(.ext 0,⟨[Pd],[],[],0,46⟩)],[],[0,1,2,7,8,9],[7]⟩
def KH(s: (List vB×List Int×List Int×Int×Unit×Int×Unit)×Unit×List Int×Unit):Mv.R:=
 br (decide (s.1.2.2.2.2.2.1<5)) ((F4 s.1.2.1).bind λy8=>br y8.1 ((ME s.1.1 s.1.2.2.2.2.2.1).bind λy9=>let j14 (p13:Int):Mv.R:=some (.inl ((s.1.1,s.1.2.1,s.1.2.2.1,p13,(),(IntKind.wrap .i64 (s.1.2.2.2.2.2.1+1)),()),(()),s.2.2));br (!y9.1) (j14 s.1.2.2.2.1) ((FC s.1.2.1 s.1.2.2.2.2.2.1).bind λy10=>br y10.1 (j14 s.1.2.2.2.1) ((FC s.1.2.2.1 s.1.2.2.2.2.2.1).bind λy11=>br y11.1 (j14 s.1.2.2.2.1) (br (decide (s.1.2.2.2.1<0)) (j14 s.1.2.2.2.2.2.1) ((LL s.1.1 s.2.2.1 s.1.2.2.2.2.2.1 s.1.2.2.2.1).bind λy12=>br y12.1 (j14 s.1.2.2.2.2.2.1) (j14 s.1.2.2.2.1)))))) (some (.inr ((s.1.2.2.2.1,()),(()),(()))))) (some (.inr ((s.1.2.2.2.1,()),(()),(()))))
def So:=md KH
def SC[dL] :=Ib Tryz.f294 [0] Mv KH [Lp,WE,GU,Vt] [] (by kernel_rfl) λs=>by simp only[KH,tm];kernel_rfl
def JC(a0:List vB)(a1:List Int)(a2:List Int):Option (Int×Unit):=
 (MF a0 a1).bind λy1=>(So ((a0,a1,a2,(-1),(),0,()),(()),y1.1,())).bind λe15=>some e15.1
def Qv[dL] :=FB 294 Tryz.f294 [.ty (.ls (.st .place)),.ty (.ls (.i .i64)),.ty (.ls (.i .i64))] Kz (λx=>JC x.1 x.2.1 x.2.2.1) [WF] [SC] (by kernel_rfl) λx=>by simp only[JC,tm];kernel_rfl
abbrev NH:LX:=⟨⟨[RI,N6,XG,(10,.cl (.own 1 (.i .i64)))],[],ZJ,0,52⟩,[(.ret,⟨[Wc,XG],[],Ir,0,52⟩),(.ext 0,⟨[(8,.cl (.dead)),XG],[],Ir,0,52⟩)],[],[0,3,9,10],[8,9]⟩
def Ji(s: (List vB×Int×Unit×Unit×Unit)×Unit×List Int×List Int×Unit):NH.R:=
 br (decide ((s.2.2.1.length:Int)<s.1.2.1)) ((JC s.1.1 s.2.2.1 s.2.2.2.1).bind λy11=>br (decide (y11.1<0)) (some (.inr (.inl (((),(),()),(()),s.2.2.1,())))) ((HE s.2.2.1 y11.1).bind λy12=>some (.inl (s.1,(()),y12.1,s.2.2.2)))) (some (.inr (.inr (((),(),()),(()),s.2.2.1,()))))
def QT:=md Ji
def QZ[dL] :=Ib Tryz.f293 [0] NH Ji [Qv,Nn] [] (by kernel_rfl) λs=>by simp only[Ji,tm];kernel_rfl
def I9(a0:List vB)(a1:List Int)(a2:List Int)(a3:Int):Option ((List Int)×Unit):=
 (GL a1 a2).bind λy1=>(FW ([0,1,2,3,4]:List Int) a2).bind λy2=>(FI a0).bind λy3=>br (!y3.1) (some (([]:List Int),())) ((F4 a1).bind λy4=>br (!y4.1) (some (([]:List Int),())) ((F4 a2).bind λy5=>br (!y5.1) (some (([]:List Int),())) ((Fi a3 0 5).bind λy6=>br (!y6.1) (some (([]:List Int),())) ((QT ((a0,a3,(),(),()),(()),y1.1,y2.1,())).bind λe13=>Sum.elim (λe13_0=>some e13_0.2.2) (λe13_1=>some e13_1.2.2) e13))))
def Sf[dL] :=FB 293 Tryz.f293 [.ty (.ls (.st .place)),.ty (.ls (.i .i64)),.ty (.ls (.i .i64)),.ty (.i .i64)] Lt (λx=>I9 x.1 x.2.1 x.2.2.1 x.2.2.2.1) [K5,Ku,K2,Lp,FF] [QZ] (by kernel_rfl) λx=>by simp only[I9,tm];kernel_rfl
abbrev L4:LX:=⟨⟨[K7,PJ,PK,ND,Wc,(9,.cl (.ptr 2 0)),Y6,PL],[K8,Zp,Zq],Zu,0,132⟩,[(.ext 0,⟨[K7,PJ,PK,ND,Wc,(9,.cl (.ptr 2 0)),Y6],[K8,Zp,Zq],Zu,0,132⟩)],[],[1,2,3,6,8,9,11,12],[1,2,3,6,8,9,11]⟩
def JI(s: (Int×Int×Unit×Unit×Unit×Unit×Unit×Int×Unit)×(N8×TM×TM×Unit)×List Int×List Int×List Int×List Int×Unit):L4.R:=
 br (decide (s.1.2.2.2.2.2.2.2.1< (s.2.2.2.2.1.length:Int))) (iteP (0<=s.1.2.2.2.2.2.2.2.1/\s.1.2.2.2.2.2.2.2.1< (s.2.2.2.2.1.length:Int)) ((s.2.2.2.2.1[s.1.2.2.2.2.2.2.2.1.toNat]?).bind λx27=>(FC s.2.2.1 x27).bind λy28=>let j33 (p32:List Int):L4.R:=some (.inl ((s.1.1,s.1.2.1,(),(),(),(),(),(IntKind.wrap .i64 (s.1.2.2.2.2.2.2.2.1+1)),()),s.2.1,s.2.2.1,p32,s.2.2.2.2));br y28.1 (iteP (0<=s.1.2.2.2.2.2.2.2.1/\s.1.2.2.2.2.2.2.2.1< (s.2.2.2.2.1.length:Int)) ((s.2.2.2.2.1[s.1.2.2.2.2.2.2.2.1.toNat]?).bind λx29=>iteP (0<=x29) ((s.2.1.1.2.1[x29.toNat]?).bind λx30=>br (x30.config.epoch==s.2.1.2.2.1.1) (iteP (0<=s.1.2.2.2.2.2.2.2.1/\s.1.2.2.2.2.2.2.2.1< (s.2.2.2.2.1.length:Int)) ((s.2.2.2.2.1[s.1.2.2.2.2.2.2.2.1.toNat]?).bind λx31=>iteP ((s.2.2.2.1++([x31]:List Int)).length*8<=2 ^ 40) (j33 (s.2.2.2.1++([x31]:List Int))) none) none) (j33 s.2.2.2.1)) none) none) (j33 s.2.2.2.1)) none) (some (.inr ((s.1.1,s.1.2.1,(),(),(),(),(),()),s.2)))
def RD:=md JI
def R1[dL] :=Ib Tryz.f272 [0] L4 JI [GU] [] (by kernel_rfl) λs=>by simp only[JI,tm];kernel_rfl
def IU(a0:qN)(a1:Int)(a2:Int):Option (om×Bool×Unit):=
 (Fg a0).bind λy1=>br (!y1.1) (some ((⟨0,0,([]:List Int),([]:List Int)⟩:om),false,())) ((Fi a1 1 3).bind λy2=>br (!y2.1) (some ((⟨0,0,([]:List Int),([]:List Int)⟩:om),false,())) ((Fi a2 0 1).bind λy3=>br (!y3.1) (some ((⟨0,0,([]:List Int),([]:List Int)⟩:om),false,())) (br ((a0.master.configs.length:Int)==20) (some ((⟨0,0,([]:List Int),([]:List Int)⟩:om),false,())) ((LI a0).bind λy4=>(FU a0.master).bind λy5=>(RD ((a1,a2,(),(),(),(),(),0,()),((a0.now,a0.servers,a0.sides,a0.master.configs,a0.master.activated,a0.masterUp,a0.lease.epoch,a0.lease.holder,a0.lease.ends,a0.places,()),(0,0,(),(),()),(y5.1.epoch,y5.1.primary,(),(),()),()),y4.1,([]:List Int),y5.1.replicas,y5.1.witnesses,())).bind λe34=>(I9 e34.2.1.1.2.2.2.2.2.2.2.2.2.1 e34.2.2.2.1 e34.2.2.1 e34.1.1).bind λy35=>br ((y35.1.length:Int)==0) (some ((⟨0,0,([]:List Int),([]:List Int)⟩:om),false,())) (iteP (0<=(0:Int)/\(0:Int)< (y35.1.length:Int)) ((y35.1[(0:Int).toNat]?).bind λx36=>(FC y35.1 e34.2.1.2.2.1.2.1).bind λy37=>let j43 (p39:Int):Option (om×Bool×Unit):=br (e34.1.2.1==1) ((FW ([0,1,2,3,4]:List Int) e34.2.2.1).bind λy40=>(JC e34.2.1.1.2.2.2.2.2.2.2.2.2.1 y35.1 y40.1).bind λy41=>br (decide (y41.1≥0)) (some ((⟨(IntKind.wrap .i64 ((e34.2.1.1.2.2.2.1.length:Int)+1)),p39,y35.1,([y41.1]:List Int)⟩:om),true,())) (some ((⟨(IntKind.wrap .i64 ((e34.2.1.1.2.2.2.1.length:Int)+1)),p39,y35.1,([]:List Int)⟩:om),true,()))) (some ((⟨(IntKind.wrap .i64 ((e34.2.1.1.2.2.2.1.length:Int)+1)),p39,y35.1,([]:List Int)⟩:om),true,()));br y37.1 ((Ip (⟨e34.2.1.2.2.1.1,e34.2.1.2.2.1.2.1,e34.2.2.2.2.1,e34.2.2.2.2.2.1⟩:om)).bind λy38=>br (!y38.1) (j43 e34.2.1.2.2.1.2.1) (j43 x36)) (j43 x36)) none)))))
def PB[dL] :=FB 272 Tryz.f272 RG XO (λx=>IU x.1 x.2.1 x.2.2.1) [Fk,FF,Vq,GN,GU,Sf,Oz,Ku,Qv] [R1] (by kernel_rfl) λx=>by simp only[IU,tm];kernel_rfl
def Hg(a0:kB)(a1:om):Option (kB×Bool×Unit):=
 (Ko a0).bind λy1=>(FL a0).bind λy2=>br (!y2.1) (some (y1.1,false,())) ((Fm a1).bind λy3=>br (!y3.1) (some (y1.1,false,())) (br (!(a1.epoch==(IntKind.wrap .i64 ((a0.configs.length:Int)+1)))) (some (y1.1,false,())) ((HQ a1).bind λy4=>iteP ((y1.1.configs++([y4.1]:List om)).length*64<=2 ^ 40) (some ((⟨(y1.1.configs++([y4.1]:List om)),y1.1.activated⟩:kB),true,())) none)))
def NA[dL] :=FB 69 Tryz.f69 [.ty (.st .masterLog),.ty (.st .config)] [.st .masterLog,.b] (λx=>Hg x.1 x.2.1) [P7,KK,Jn,NZ] [] (by kernel_rfl) λx=>by simp only[Hg,tm];kernel_rfl
def HB(a0:qN)(a1:om):Option (qN×Int×Unit):=
 (FA a0).bind λy1=>(Fg a0).bind λy2=>br (!y2.1) (some (y1.1,1,())) (br (decide ((IntKind.wrap .i64 (a0.masterUp*2))<=3)) (some (y1.1,8,())) ((Hg a0.master a1).bind λy3=>br (!y3.2.1) (some (y1.1,1,())) (some ((⟨y1.1.now,y1.1.servers,y1.1.sides,y3.1,y1.1.masterUp,y1.1.lease,y1.1.places⟩:qN),0,()))))
def Ml[dL] :=FB 273 Tryz.f273 [.ty (.st .cluster),.ty (.st .config)] N9 (λx=>HB x.1 x.2.1) [FX,Fk,NA] [] (by kernel_rfl) λx=>by simp only[HB,tm];kernel_rfl
def Lk(a0:kB):Option (om×Bool×Unit):=
 (G4 a0 (a0.configs.length:Int)).bind λy1=>some (y1.1,y1.2.1,())
def Tn[dL] :=FB 295 Tryz.f295 UE XO (λx=>Lk x.1) [O9] [] (by kernel_rfl) λx=>by simp only[Lk,tm];kernel_rfl
def Hn(a0:qQ)(a1:Int):Option (qQ×Bool×Unit):=
 (Hh a0).bind λy1=>(Fi a1 1 20).bind λy2=>br (!y2.1) (some (y1.1,false,())) (br (decide (a1<=a0.epoch)) (some (y1.1,false,())) (br (decide (a0.epoch<0)) (some (y1.1,false,())) (some ((⟨y1.1.up,y1.1.intact,y1.1.version,a1,y1.1.config,y1.1.first,y1.1.log,y1.1.commit,y1.1.learned⟩:qQ),true,()))))
def PD[dL] :=FB 241 Tryz.f241 TJ [.st .server,.b] (λx=>Hn x.1 x.2.1) [P8,FF] [] (by kernel_rfl) λx=>by simp only[Hn,tm];kernel_rfl
abbrev K9:LX:=⟨⟨[K7,PJ,PK,ND,(7,.cl (.ptr 2 0)),(10,.cl (.own 0 (.i .i64))),XH],[K8,M3,SP],YD,0,85⟩,[(.ext 0,⟨[(6,.cl (.ptr 0 0)),(7,.cl (.ptr 1 0))],[M3,VF],XP,0,85⟩)],[],[1,2,3,6,7,10,11],[6,7]⟩
def Jj(s: (Int×Int×Unit×Unit×Unit×Unit×Int×Unit)×(N8×Ns×Ns×Unit)×List Int×List qQ×List Int×List om×List vB×Unit):K9.R:=
 br (decide (s.1.2.2.2.2.2.2.1< (s.2.2.1.length:Int))) (iteP (0<=s.1.2.2.2.2.2.2.1/\s.1.2.2.2.2.2.2.1< (s.2.2.1.length:Int)) ((s.2.2.1[s.1.2.2.2.2.2.2.1.toNat]?).bind λx36=>iteP (0<=x36) ((s.2.1.1.2.1[x36.toNat]?).bind λx37=>let j47 (p46:List qQ):K9.R:=some (.inl ((s.1.1,s.1.2.1,(),(),(),(),(IntKind.wrap .i64 (s.1.2.2.2.2.2.2.1+1)),()),s.2.1,s.2.2.1,p46,s.2.2.2.2));br x37.up (iteP (0<=s.1.2.2.2.2.2.2.1/\s.1.2.2.2.2.2.2.1< (s.2.2.1.length:Int)) ((s.2.2.1[s.1.2.2.2.2.2.2.1.toNat]?).bind λx38=>(GM s.2.1.1.2.2.1 s.1.1 x38).bind λy39=>br y39.1 (iteP (0<=s.1.2.2.2.2.2.2.1/\s.1.2.2.2.2.2.2.1< (s.2.2.1.length:Int)) ((s.2.2.1[s.1.2.2.2.2.2.2.1.toNat]?).bind λx40=>iteP (0<=s.1.2.2.2.2.2.2.1/\s.1.2.2.2.2.2.2.1< (s.2.2.1.length:Int)) ((s.2.2.1[s.1.2.2.2.2.2.2.1.toNat]?).bind λx41=>iteP (0<=x41) ((s.2.1.1.2.1[x41.toNat]?).bind λx42=>(Hn x42 s.1.2.1).bind λy43=>iteP (0<=x40/\x40< (s.2.2.2.1.length:Int)) ((s.2.2.2.1[x40.toNat]?).bind λ_=>j47 (s.2.2.2.1.set x40.toNat y43.1)) none) none) none) none) (j47 s.2.2.2.1)) none) (j47 s.2.2.2.1)) none) none) (some (.inr (((),(),()),s.2.1.2,s.2.2.2)))
def QU:=md Jj
def Q0[dL] :=Ib Tryz.f296 [0] K9 Jj [Kt,PD] [] (by kernel_rfl) λs=>by simp only[Jj,tm];kernel_rfl
def Jb(a0:qN)(a1:Int)(a2:Int):Option (qN×Unit):=
 (FA a0).bind λy1=>(FU a0.master).bind λy2=>(Fg a0).bind λy3=>br (!y3.1) (some (y1.1,())) (br (!y2.2.1) (some (y1.1,())) ((Fi a2 1 (a0.master.configs.length:Int)).bind λy4=>br (!y4.1) (some (y1.1,())) ((Ge y2.1).bind λy5=>(QU ((a1,a2,(),(),(),(),0,()),((a0.now,a0.servers,a0.sides,a0.master.configs,a0.master.activated,a0.masterUp,a0.lease.epoch,a0.lease.holder,a0.lease.ends,a0.places,()),(0,(),(),(),0,0,0,0,0,(),()),(y1.1.now,(),(),(),y1.1.master.activated,y1.1.masterUp,y1.1.lease.epoch,y1.1.lease.holder,y1.1.lease.ends,(),()),()),y5.1,y1.1.servers,y1.1.sides,y1.1.master.configs,y1.1.places,())).bind λe48=>some ((⟨e48.2.1.2.1.1,e48.2.2.1,e48.2.2.2.1,(⟨e48.2.2.2.2.1,e48.2.1.2.1.2.2.2.2.1⟩:kB),e48.2.1.2.1.2.2.2.2.2.1,(⟨e48.2.1.2.1.2.2.2.2.2.2.1,e48.2.1.2.1.2.2.2.2.2.2.2.1,e48.2.1.2.1.2.2.2.2.2.2.2.2.1⟩:vz),e48.2.2.2.2.2.1⟩:qN),()))))
def Si[dL] :=FB 296 Tryz.f296 RG XN (λx=>Jb x.1 x.2.1 x.2.2.1) [FX,GN,Fk,FF,IC] [Q0] (by kernel_rfl) λx=>by simp only[Jb,tm];kernel_rfl
abbrev L6:LX:=⟨⟨[K7,N7,MZ,ND,UK,PN],[K8,UM],Zv,0,74⟩,[(.ext 0,⟨[MZ],[],Ir,0,74⟩)],[],[1,2,5,6,7,8],[5]⟩
def JJ(s:XK×(N8×TM×Unit)×List Int×List Int×List Int×Unit):L6.R:=
 br (decide (s.1.2.2.2.2.2.1< (s.2.2.2.1.length:Int))) (br s.1.2.2.2.2.1 ((Fg (⟨s.2.1.1.1,s.2.1.1.2.1,s.2.1.1.2.2.1,(⟨s.2.1.1.2.2.2.1,s.2.1.1.2.2.2.2.1⟩:kB),s.2.1.1.2.2.2.2.2.1,(⟨s.2.1.1.2.2.2.2.2.2.1,s.2.1.1.2.2.2.2.2.2.2.1,s.2.1.1.2.2.2.2.2.2.2.2.1⟩:vz),s.2.1.1.2.2.2.2.2.2.2.2.2.1⟩:qN)).bind λy20=>br y20.1 ((Fi s.1.1 0 4).bind λy21=>br y21.1 (iteP (0<=s.1.2.2.2.2.2.1/\s.1.2.2.2.2.2.1< (s.2.2.2.1.length:Int)) ((s.2.2.2.1[s.1.2.2.2.2.2.1.toNat]?).bind λx22=>iteP (0<=x22) ((s.2.1.1.2.1[x22.toNat]?).bind λx23=>let j28 (p27:List Int):L6.R:=some (.inl ((s.1.1,(),(),(),s.1.2.2.2.2.1,(IntKind.wrap .i64 (s.1.2.2.2.2.2.1+1)),()),s.2.1,p27,s.2.2.2));br x23.up (br (x23.config.epoch==s.2.1.2.1.1) (iteP (0<=s.1.2.2.2.2.2.1/\s.1.2.2.2.2.2.1< (s.2.2.2.1.length:Int)) ((s.2.2.2.1[s.1.2.2.2.2.2.1.toNat]?).bind λx24=>(GM s.2.1.1.2.2.1 s.1.1 x24).bind λy25=>br y25.1 (iteP (0<=s.1.2.2.2.2.2.1/\s.1.2.2.2.2.2.1< (s.2.2.2.1.length:Int)) ((s.2.2.2.1[s.1.2.2.2.2.2.1.toNat]?).bind λx26=>iteP ((s.2.2.1++([x26]:List Int)).length*8<=2 ^ 40) (j28 (s.2.2.1++([x26]:List Int))) none) none) (j28 s.2.2.1)) none) (j28 s.2.2.1)) (j28 s.2.2.1)) none) none) (some (.inr (((),()),(()),s.2.2.1,())))) (some (.inr (((),()),(()),s.2.2.1,())))) (some (.inr (((),()),(()),s.2.2.1,())))) (some (.inr (((),()),(()),s.2.2.1,())))
def RE:=md JJ
def R2[dL] :=Ib Tryz.f26 [0] L6 JJ [Fk,FF,Kt] [] (by kernel_rfl) λs=>by simp only[JJ,tm];kernel_rfl
def J1(a0:qN)(a1:Int):Option ((List Int)×Unit):=
 (FU a0.master).bind λy1=>(RE ((a1,(),(),(),y1.2.1,0,()),((a0.now,a0.servers,a0.sides,a0.master.configs,a0.master.activated,a0.masterUp,a0.lease.epoch,a0.lease.holder,a0.lease.ends,a0.places,()),(y1.1.epoch,y1.1.primary,(),(),()),()),([]:List Int),y1.1.replicas,y1.1.witnesses,())).bind λe29=>some e29.2.2
def Tw[dL] :=FB 26 Tryz.f26 LU Lt (λx=>J1 x.1 x.2.1) [GN] [R2] (by kernel_rfl) λx=>by simp only[J1,tm];kernel_rfl
abbrev Oc:LX:=⟨⟨[N7,Nr,(6,.cl (.own 0 (.i .i64))),Pd],[K8],Ir,0,44⟩,[(.ext 0,⟨[Nr],[],[],0,44⟩)],[],[2,5,6,7],[5]⟩
def JF(s:Zf×(N8×Unit)×List Int×Unit):Oc.R:=
 br (decide (s.1.2.2.2.1< (s.2.2.1.length:Int))) (br (decide (s.1.2.1<0)) (iteP (0<=s.1.2.2.2.1/\s.1.2.2.2.1< (s.2.2.1.length:Int)) ((s.2.2.1[s.1.2.2.2.1.toNat]?).bind λx15=>some (.inl (((),x15,(),(IntKind.wrap .i64 (s.1.2.2.2.1+1)),()),s.2))) none) (iteP (0<=s.1.2.2.2.1/\s.1.2.2.2.1< (s.2.2.1.length:Int)) ((s.2.2.1[s.1.2.2.2.1.toNat]?).bind λx16=>iteP (0<=x16) ((s.2.1.1.2.1[x16.toNat]?).bind λx17=>iteP (0<=s.1.2.1) ((s.2.1.1.2.1[s.1.2.1.toNat]?).bind λx18=>br (decide ((x17.log.length:Int)>(x18.log.length:Int))) (iteP (0<=s.1.2.2.2.1/\s.1.2.2.2.1< (s.2.2.1.length:Int)) ((s.2.2.1[s.1.2.2.2.1.toNat]?).bind λx19=>some (.inl (((),x19,(),(IntKind.wrap .i64 (s.1.2.2.2.1+1)),()),s.2))) none) (some (.inl (((),s.1.2.1,(),(IntKind.wrap .i64 (s.1.2.2.2.1+1)),()),s.2)))) none) none) none)) (some (.inr ((s.1.2.1,()),(()),(()))))
def RA:=md JF
def RX[dL] :=Ib Tryz.f28 [0] Oc JF [] [] (by kernel_rfl) λs=>by simp only[JF,tm];kernel_rfl
def JS(a0:qN)(a1:Int):Option (Int×Unit):=
 (J1 a0 a1).bind λy1=>(RA (((),(-1),(),0,()),((a0.now,a0.servers,a0.sides,a0.master.configs,a0.master.activated,a0.masterUp,a0.lease.epoch,a0.lease.holder,a0.lease.ends,a0.places,()),()),y1.1,())).bind λe21=>some e21.1
def Ti[dL] :=FB 28 Tryz.f28 LU Kz (λx=>JS x.1 x.2.1) [Tw] [RX] (by kernel_rfl) λx=>by simp only[JS,tm];kernel_rfl
def ML(a0:qQ)(a1:Int):Option ((List sf)×Unit):=
 (GD a0.config a1).bind λy1=>(Gx a0.learned).bind λy2=>br (y1.1==1) ((Fs a0).bind λy3=>br (decide ((y3.1.length:Int)>(y2.1.length:Int))) (some (y3.1,())) (some (y2.1,()))) (br (y1.1==2) ((Fs a0).bind λy4=>br (decide ((y4.1.length:Int)>(y2.1.length:Int))) (some (y4.1,())) (some (y2.1,()))) (some (y2.1,())))
def WI[dL] :=FB 103 Tryz.f103 TJ VD (λx=>ML x.1 x.2.1) [LN,Jc,H9] [] (by kernel_rfl) λx=>by simp only[ML,tm];kernel_rfl
def MG(a0:Int)(a1:List sf):Option (Bool×Unit):=
 (FZ a1).bind λy1=>br y1.1 (br (decide ((a1.length:Int)<=3)) ((Fi a0 0 (IntKind.wrap .i64 (16-(a1.length:Int)))).bind λy2=>br y2.1 (br (a0==0) (some (true,())) (some (((a1.length:Int)==3),()))) (some (false,()))) (some (false,()))) (some (false,()))
def WG[dL] :=FB 174 Tryz.f174 YY [.b] (λx=>MG x.1 x.2.1) [Lq,FF] [] (by kernel_rfl) λx=>by simp only[MG,tm];kernel_rfl
abbrev M5:LX:=⟨⟨[Mh,(1,.cl (.ro (.st .entry))),Nr],[],[],0,30⟩,[(.ext 0,⟨[Nr],[],[],0,30⟩)],[],[0,1,5],[5]⟩
def GA(s: (List sf×List sf×Int×Unit)×Unit×Unit):M5.R:=
 br (decide (s.1.2.2.1< (s.1.1.length:Int))) (br (decide (s.1.2.2.1< (s.1.2.1.length:Int))) (iteP (0<=s.1.2.2.1) ((s.1.1[s.1.2.2.1.toNat]?).bind λx4=>iteP (0<=s.1.2.2.1) ((s.1.2.1[s.1.2.2.1.toNat]?).bind λx5=>br ((x4.epoch==x5.epoch)&&((x4.op.client==x5.op.client)&&((x4.op.seq==x5.op.seq)&&((x4.op.kind==x5.op.kind)&&((x4.op.object==x5.op.object)&&((x4.op.old==x5.op.old)&&((x4.op.value==x5.op.value)&&true))))))) (some (.inl ((s.1.1,s.1.2.1,(IntKind.wrap .i64 (s.1.2.2.1+1)),()),(()),(())))) (some (.inr (s.1.2.2,(()),(()))))) none) none) (some (.inr (s.1.2.2,(()),(()))))) (some (.inr (s.1.2.2,(()),(()))))
def Kx:=md GA
def Qi[dL] :=Ib Tryz.f175 [0] M5 GA [] [] (by kernel_rfl) λs=>by simp only[GA,tm];kernel_rfl
def HL(a0:List sf)(a1:List sf):Option (Int×Unit):=
 (Kx ((a0,a1,0,()),(()),(()))).bind λe6=>some e6.1
def Ri[dL] :=FB 175 Tryz.f175 [.ty (.ls (.st .entry)),.ty (.ls (.st .entry))] Kz (λx=>HL x.1 x.2.1) [] [Qi] (by kernel_rfl) λx=>by simp only[HL,tm];kernel_rfl
def LC(a0:List sf)(a1:Int)(a2:List sf):Option ((List sf)×Bool×Unit):=
 (FZ a0).bind λy1=>br (!y1.1) (some (([]:List sf),false,())) ((MG a1 a2).bind λy2=>br (!y2.1) (some (([]:List sf),false,())) (br (decide (a1>(a0.length:Int))) (some (([]:List sf),false,())) (iteP (0<=a1/\a1<=(a0.length:Int)/\(a0.length:Int)<=(a0.length:Int)) ((HL ((a0.drop a1.toNat).take ((a0.length:Int).toNat-a1.toNat)) a2).bind λy3=>br (decide (y3.1< (if (a2.length:Int)< (IntKind.wrap .i64 ((a0.length:Int)-a1)) then (a2.length:Int) else (IntKind.wrap .i64 ((a0.length:Int)-a1))))) (some (([]:List sf),false,())) ((Gx a0).bind λy4=>iteP (0<=y3.1/\y3.1<=(a2.length:Int)/\(a2.length:Int)<=(a2.length:Int)) (iteP ((y4.1++((a2.drop y3.1.toNat).take ((a2.length:Int).toNat-y3.1.toNat))).length*56<=2 ^ 40) ((FZ (y4.1++((a2.drop y3.1.toNat).take ((a2.length:Int).toNat-y3.1.toNat)))).bind λy5=>br (!y5.1) (some (([]:List sf),false,())) (some ((y4.1++((a2.drop y3.1.toNat).take ((a2.length:Int).toNat-y3.1.toNat))),true,()))) none) none)) none)))
def Vk[dL] :=FB 102 Tryz.f102 [.ty (.ls (.st .entry)),.ty (.i .i64),.ty (.ls (.st .entry))] XM (λx=>LC x.1 x.2.1 x.2.2.1) [Lq,WG,Ri,Jc] [] (by kernel_rfl) λx=>by simp only[LC,tm];kernel_rfl
abbrev La:LX:=⟨⟨[K7,N7,Wd,UK,XI,QA,UL,(11,.cl (.ptr 2 0)),PL],[K8,UM,Zr],ZK,0,121⟩,[(.ext 2,⟨[K7,N7,Wd,UK,XI,QA,UL],[K8,UM],ZK,0,121⟩)],[],[1,2,6,7,8,9,10,11,12],[1,2,6,7,8,9,10]⟩
def Jk(s: (Int×Unit×Unit×Bool×Unit×Bool×Int×Unit×Int×Unit)×(N8×TM×Zg×Unit)×List sf×List Int×List Int×Unit):La.R:=
 br (decide (s.1.2.2.2.2.2.2.2.2.1<5)) (iteP (0<=s.1.2.2.2.2.2.2.2.2.1) ((s.2.1.1.2.1[s.1.2.2.2.2.2.2.2.2.1.toNat]?).bind λx59=>let j66 (p64:List sf) (p65:Bool):La.R:=some (.inl ((s.1.1,(),(),p65,(),s.1.2.2.2.2.2.1,s.1.2.2.2.2.2.2.1,(),(IntKind.wrap .i64 (s.1.2.2.2.2.2.2.2.2.1+1)),()),s.2.1,p64,s.2.2.2));br (!x59.up) (j66 s.2.2.1 s.1.2.2.2.1) ((GM s.2.1.1.2.2.1 s.1.1 s.1.2.2.2.2.2.2.2.2.1).bind λy60=>br (!y60.1) (j66 s.2.2.1 s.1.2.2.2.1) (iteP (0<=s.1.2.2.2.2.2.2.2.2.1) ((s.2.1.1.2.1[s.1.2.2.2.2.2.2.2.2.1.toNat]?).bind λx61=>(ML x61 s.1.2.2.2.2.2.2.2.2.1).bind λy62=>(LC y62.1 s.2.1.2.2.1.2.2.2.2.2.2.2.2.1 s.2.1.2.2.1.2.2.2.2.2.2.2.2.2.1).bind λy63=>br y63.2.1 (br (!s.1.2.2.2.1) (j66 y63.1 true) (br (decide ((y63.1.length:Int)>(s.2.2.1.length:Int))) (j66 y63.1 true) (j66 s.2.2.1 s.1.2.2.2.1))) (j66 s.2.2.1 s.1.2.2.2.1)) none))) none) (some (.inr ((s.1.1,(),(),s.1.2.2.2.1,(),s.1.2.2.2.2.2.1,s.1.2.2.2.2.2.2.1,()),(s.2.1.1,s.2.1.2.1,()),s.2.2)))
def NC:=md Jk
def Q1[dL] :=Ib Tryz.f32 [0,0] La Jk [Kt,WI,Vk] [] (by kernel_rfl) λs=>by simp only[Jk,tm];kernel_rfl
abbrev Og:LX:=⟨⟨[K7,N7,Wd,UK,XI,QA,UL],[K8,UM],ZK,0,121⟩,[(.ext 0,⟨[Wd,UK],[],[.st .entry],0,121⟩)],[],[1,2,6,7,8,9,10],[6,7]⟩
def JK(s: (Int×Unit×Unit×Bool×Unit×Bool×Int×Unit)×(N8×TM×Unit)×List sf×List Int×List Int×Unit):Og.R:=
 br (decide (s.1.2.2.2.2.2.2.1< (s.2.2.2.2.1.length:Int))) (br s.1.2.2.2.2.2.1 ((Fg (⟨s.2.1.1.1,s.2.1.1.2.1,s.2.1.1.2.2.1,(⟨s.2.1.1.2.2.2.1,s.2.1.1.2.2.2.2.1⟩:kB),s.2.1.1.2.2.2.2.2.1,(⟨s.2.1.1.2.2.2.2.2.2.1,s.2.1.1.2.2.2.2.2.2.2.1,s.2.1.1.2.2.2.2.2.2.2.2.1⟩:vz),s.2.1.1.2.2.2.2.2.2.2.2.2.1⟩:qN)).bind λy21=>br y21.1 ((Fi s.1.1 0 4).bind λy22=>br y22.1 (iteP (0<=s.1.2.2.2.2.2.2.1/\s.1.2.2.2.2.2.2.1< (s.2.2.2.2.1.length:Int)) ((s.2.2.2.2.1[s.1.2.2.2.2.2.2.1.toNat]?).bind λx23=>iteP (0<=x23) ((s.2.1.1.2.1[x23.toNat]?).bind λx24=>br (!x24.up) (some (.inl ((s.1.1,(),(),s.1.2.2.2.1,(),s.1.2.2.2.2.2.1,(IntKind.wrap .i64 (s.1.2.2.2.2.2.2.1+1)),()),s.2))) (br (!(x24.config.epoch==s.2.1.2.1.1)) (some (.inl ((s.1.1,(),(),s.1.2.2.2.1,(),s.1.2.2.2.2.2.1,(IntKind.wrap .i64 (s.1.2.2.2.2.2.2.1+1)),()),s.2))) (iteP (0<=s.1.2.2.2.2.2.2.1/\s.1.2.2.2.2.2.2.1< (s.2.2.2.2.1.length:Int)) ((s.2.2.2.2.1[s.1.2.2.2.2.2.2.1.toNat]?).bind λx25=>(GM s.2.1.1.2.2.1 s.1.1 x25).bind λy26=>br (!y26.1) (some (.inl ((s.1.1,(),(),s.1.2.2.2.1,(),s.1.2.2.2.2.2.1,(IntKind.wrap .i64 (s.1.2.2.2.2.2.2.1+1)),()),s.2))) ((NC ((s.1.1,(),(),s.1.2.2.2.1,(),s.1.2.2.2.2.2.1,s.1.2.2.2.2.2.2.1,(),0,()),(s.2.1.1,s.2.1.2.1,(x24.up,x24.intact,x24.version,x24.epoch,x24.config.epoch,x24.config.primary,x24.config.replicas,x24.config.witnesses,x24.first,x24.log,x24.commit,x24.learned,()),()),s.2.2)).bind λe67=>some (.inl ((e67.1.1,(),(),e67.1.2.2.2.1,(),e67.1.2.2.2.2.2.1,(IntKind.wrap .i64 (e67.1.2.2.2.2.2.2.1+1)),()),e67.2)))) none))) none) none) (some (.inr (((),s.1.2.2.2.1,()),(()),s.2.2.1,())))) (some (.inr (((),s.1.2.2.2.1,()),(()),s.2.2.1,())))) (some (.inr (((),s.1.2.2.2.1,()),(()),s.2.2.1,())))) (some (.inr (((),s.1.2.2.2.1,()),(()),s.2.2.1,())))
def RF:=md JK
def R3[dL] :=Ib Tryz.f32 [0] Og JK [Fk,FF,Kt] [Q1] (by kernel_rfl) λs=>by simp only[JK,tm];kernel_rfl
def J2(a0:qN)(a1:Int):Option ((List sf)×Bool×Unit):=
 (FU a0.master).bind λy1=>(RF ((a1,(),(),false,(),y1.2.1,0,()),((a0.now,a0.servers,a0.sides,a0.master.configs,a0.master.activated,a0.masterUp,a0.lease.epoch,a0.lease.holder,a0.lease.ends,a0.places,()),(y1.1.epoch,y1.1.primary,(),(),()),()),([]:List sf),y1.1.replicas,y1.1.witnesses,())).bind λe87=>some (e87.2.2.1,e87.1.2)
def Tz[dL] :=FB 32 Tryz.f32 LU XM (λx=>J2 x.1 x.2.1) [GN] [R3] (by kernel_rfl) λx=>by simp only[J2,tm];kernel_rfl
def KW(a0:qN)(a1:Int):Option ((List sf)×Bool×Unit):=
 (Fg a0).bind λy1=>br (!y1.1) (some (([]:List sf),false,())) ((Fi a1 0 4).bind λy2=>br (!y2.1) (some (([]:List sf),false,())) (br (a0.master.activated==0) (some (([]:List sf),true,())) ((JS a0 a1).bind λy3=>br (decide (y3.1≥0)) (iteP (0<=y3.1) ((a0.servers[y3.1.toNat]?).bind λx4=>(Gx x4.log).bind λy5=>some (y5.1,true,())) none) ((J2 a0 a1).bind λy6=>some (y6.1,y6.2.1,())))))
def Uv[dL] :=FB 22 Tryz.f22 LU XM (λx=>KW x.1 x.2.1) [Fk,FF,Ti,Jc,Tz] [] (by kernel_rfl) λx=>by simp only[KW,tm];kernel_rfl
abbrev Na:LX:=⟨⟨[Mh,N6],[],[],0,16⟩,[(.ret,⟨[PO],[],[],0,16⟩),(.ext 0,⟨[OD],[],[],0,16⟩)],[],[0,3],[2]⟩
def IQ(s:Za×Unit×Unit):Na.R:=
 br (decide (s.1.2.1< (s.1.1.length:Int))) (iteP (0<=s.1.2.1) ((s.1.1[s.1.2.1.toNat]?).bind λx3=>(Io x3.op).bind λy4=>br y4.1 (some (.inr (.inl ((true,()),(()),(()))))) (some (.inl ((s.1.1,(IntKind.wrap .i64 (s.1.2.1+1)),()),(()),(()))))) none) (some (.inr (.inr (((),()),(()),(())))))
def Qd:=md IQ
def Qn[dL] :=Ib Tryz.f146 [0] Na IQ [OK] [] (by kernel_rfl) λs=>by simp only[IQ,tm];kernel_rfl
def G5(a0:List sf):Option (Bool×Unit):=
 (Qd ((a0,0,()),(()),(()))).bind λe5=>Sum.elim (λe5_0=>some e5_0.1) (λ_=>some (false,())) e5
def LO[dL] :=FB 146 Tryz.f146 Qf [.b] (λx=>G5 x.1) [] [Qn] (by kernel_rfl) λx=>by simp only[G5,tm];kernel_rfl
def Hf(a0:qQ)(a1:om)(a2:Int)(a3:List sf):Option (qQ×Bool×Unit):=
 (GD a1 a2).bind λy1=>br (y1.1==0) ((Hh a0).bind λy2=>some (y2.1,false,())) ((FZ a3).bind λy3=>br (!y3.1) ((Hh a0).bind λy4=>some (y4.1,false,())) ((Fi a0.version 1 2).bind λy5=>br (!y5.1) ((Hh a0).bind λy6=>some (y6.1,false,())) ((Fi a0.epoch 0 a1.epoch).bind λy7=>br (!y7.1) ((Hh a0).bind λy8=>some (y8.1,false,())) ((JD a3).bind λy9=>br (decide (y9.1>a1.epoch)) ((Hh a0).bind λy10=>some (y10.1,false,())) (let j18:Option (qQ×Bool×Unit):=(HQ a1).bind λy13=>(Gx a3).bind λy14=>br (y1.1==3) (iteP (0<=(if (IntKind.wrap .i64 ((a3.length:Int)-3))>0 then (IntKind.wrap .i64 ((a3.length:Int)-3)) else 0)/\(if (IntKind.wrap .i64 ((a3.length:Int)-3))>0 then (IntKind.wrap .i64 ((a3.length:Int)-3)) else 0)<=(a3.length:Int)/\(a3.length:Int)<=(a3.length:Int)) ((Gx ((a3.drop (if (IntKind.wrap .i64 ((a3.length:Int)-3))>0 then (IntKind.wrap .i64 ((a3.length:Int)-3)) else 0).toNat).take ((a3.length:Int).toNat-(if (IntKind.wrap .i64 ((a3.length:Int)-3))>0 then (IntKind.wrap .i64 ((a3.length:Int)-3)) else 0).toNat))).bind λy15=>some ((⟨a0.up,true,a0.version,a1.epoch,y13.1,(if (IntKind.wrap .i64 ((a3.length:Int)-3))>0 then (IntKind.wrap .i64 ((a3.length:Int)-3)) else 0),y15.1,(a3.length:Int),([]:List sf)⟩:qQ),true,())) none) (some ((⟨a0.up,true,a0.version,a1.epoch,y13.1,0,y14.1,(a3.length:Int),([]:List sf)⟩:qQ),true,()));br (a0.version==1) ((G5 a3).bind λy11=>br y11.1 ((Hh a0).bind λy12=>some (y12.1,false,())) (j18)) (j18))))))
def Ny[dL] :=FB 71 Tryz.f71 [.ty (.st .server),.ty (.st .config),.ty (.i .i64),.ty (.ls (.st .entry))] [.st .server,.b] (λx=>Hf x.1 x.2.1 x.2.2.1 x.2.2.2.1) [LN,P8,Lq,FF,P9,LO,NZ,Jc] [] (by kernel_rfl) λx=>by simp only[Hf,tm];kernel_rfl
def G1(a0:kB)(a1:Int):Option (kB×Bool×Unit):=
 (Ko a0).bind λy1=>(FL a0).bind λy2=>br (!y2.1) (some (y1.1,false,())) (br (!(a1==(a0.configs.length:Int))) (some (y1.1,false,())) (br (decide (a1<=a0.activated)) (some (y1.1,false,())) (some ((⟨y1.1.configs,a1⟩:kB),true,()))))
def MQ[dL] :=FB 70 Tryz.f70 Xz [.st .masterLog,.b] (λx=>G1 x.1 x.2.1) [P7,KK] [] (by kernel_rfl) λx=>by simp only[G1,tm];kernel_rfl
abbrev OW:LX:=⟨⟨[J9,N4,QC,QD,RJ,RK,UL],[K8,M3,TN,VG],VH,0,180⟩,[(.ret,⟨[J9,N4,N6,QC,QD,RJ,RK],[K8,TN,TN,VG],VH,0,180⟩),(.ext 1,⟨[J9,N4,(3,.cl (.dead)),QC,QD,RJ,RK],[K8,M3,TN,VG],VH,0,180⟩)],[],[1,2,4,5,7,9,10],[1,2,3,4,5,7,9]⟩
def KC(s:XL×(N8×Ns×Ns×TM×Unit)×List sf×List Int×List qQ×List Int×List om×List vB×List Int×List Int×Unit):OW.R:=
 br (decide (s.1.2.2.2.2.2.2.1< (s.2.2.2.1.length:Int))) (iteP (0<=s.1.2.2.2.2.2.2.1/\s.1.2.2.2.2.2.2.1< (s.2.2.2.1.length:Int)) ((s.2.2.2.1[s.1.2.2.2.2.2.2.1.toNat]?).bind λx43=>iteP (0<=x43) ((s.2.1.1.2.1[x43.toNat]?).bind λx44=>br (!x44.up) (some (.inr (.inl (((),(),10,(),(),(),(),()),(s.2.1.1,s.2.1.2.2.1,s.2.1.2.2),s.2.2)))) (iteP (0<=s.1.2.2.2.2.2.2.1/\s.1.2.2.2.2.2.2.1< (s.2.2.2.1.length:Int)) ((s.2.2.2.1[s.1.2.2.2.2.2.2.1.toNat]?).bind λx45=>iteP (0<=x45) ((s.2.1.1.2.2.1[x45.toNat]?).bind λx46=>br (!(x46==0)) (some (.inr (.inl (((),(),10,(),(),(),(),()),(s.2.1.1,s.2.1.2.2.1,s.2.1.2.2),s.2.2)))) (some (.inl (((),(),(),(),(),(),(IntKind.wrap .i64 (s.1.2.2.2.2.2.2.1+1)),()),s.2)))) none) none)) none) none) (some (.inr (.inr (((),(),(),(),(),(),(),()),s.2))))
def Sj:=md KC
def Sv[dL] :=Ib Tryz.f274 [0] OW KC [] [] (by kernel_rfl) λs=>by simp only[KC,tm];kernel_rfl
abbrev Ms:LX:=⟨⟨[J9,N4,QC,QD,RJ,RK,XH],[K8,M3,TN,VG],VH,0,180⟩,[(.ret,⟨[J9,N4,N6,QC,QD,RJ,RK],[K8,TN,TN,VG],VH,0,180⟩),(.ext 3,⟨[J9,N4,(3,.cl (.dead)),QC,QD,RJ,RK],[K8,M3,TN,VG],VH,0,180⟩)],[],[1,2,4,5,7,9,11],[1,2,3,4,5,7,9]⟩
def KD(s:XL×(N8×Ns×Ns×TM×Unit)×List sf×List Int×List qQ×List Int×List om×List vB×List Int×List Int×Unit):Ms.R:=
 br (decide (s.1.2.2.2.2.2.2.1< (s.2.2.2.1.length:Int))) (iteP (0<=s.1.2.2.2.2.2.2.1/\s.1.2.2.2.2.2.2.1< (s.2.2.2.1.length:Int)) ((s.2.2.2.1[s.1.2.2.2.2.2.2.1.toNat]?).bind λx81=>iteP (0<=x81) ((s.2.1.1.2.1[x81.toNat]?).bind λx82=>let j84:Ms.R:=some (.inl (((),(),(),(),(),(),(IntKind.wrap .i64 (s.1.2.2.2.2.2.2.1+1)),()),s.2));br (x82.version==1) ((G5 s.2.2.1).bind λy83=>br y83.1 (some (.inr (.inl (((),(),6,(),(),(),(),()),(s.2.1.1,s.2.1.2.2.1,s.2.1.2.2),s.2.2)))) (j84)) (j84)) none) none) (some (.inr (.inr (((),(),(),(),(),(),(),()),s.2))))
def OO:=md KD
def Sw[dL] :=Ib Tryz.f274 [1] Ms KD [LO] [] (by kernel_rfl) λs=>by simp only[KD,tm];kernel_rfl
abbrev OX:LX:=⟨⟨[J9,N4,QC,QD,RJ,RK,PL],[K8,M3,TN,VG],VH,0,180⟩,[(.ext 5,⟨[J9,N4,QC,QD],[K8,M3,VF,[.int .i64,.int .i64,.own 4 (.i .i64),.own 5 (.i .i64)]],[.st .server,.i .i64,.st .config,.st .place,.i .i64,.i .i64],0,180⟩)],[],[1,2,4,5,7,9,12],[1,2,4,5]⟩
def KE(s:XL×(N8×Ns×Ns×TM×Unit)×List sf×List Int×List qQ×List Int×List om×List vB×List Int×List Int×Unit):OX.R:=
 br (decide (s.1.2.2.2.2.2.2.1< (s.2.2.2.1.length:Int))) (iteP (0<=s.1.2.2.2.2.2.2.1/\s.1.2.2.2.2.2.2.1< (s.2.2.2.1.length:Int)) ((s.2.2.2.1[s.1.2.2.2.2.2.2.1.toNat]?).bind λx119=>iteP (0<=s.1.2.2.2.2.2.2.1/\s.1.2.2.2.2.2.2.1< (s.2.2.2.1.length:Int)) ((s.2.2.2.1[s.1.2.2.2.2.2.2.1.toNat]?).bind λx120=>iteP (0<=x120/\x120< (s.2.2.2.2.1.length:Int)) ((s.2.2.2.2.1[x120.toNat]?).bind λx121=>iteP (0<=s.1.2.2.2.2.2.2.1/\s.1.2.2.2.2.2.2.1< (s.2.2.2.1.length:Int)) ((s.2.2.2.1[s.1.2.2.2.2.2.2.1.toNat]?).bind λx122=>(s.2.2.2.2.1[x120.toNat]?).bind λx123=>iteP (0+x121.config.replicas.length<=x123.config.replicas.length) ((s.2.2.2.2.1[x120.toNat]?).bind λx124=>iteP (0+x121.config.witnesses.length<=x124.config.witnesses.length) ((s.2.2.2.2.1[x120.toNat]?).bind λx125=>iteP (0+x121.log.length<=x125.log.length) ((s.2.2.2.2.1[x120.toNat]?).bind λx126=>iteP (0+x121.learned.length<=x126.learned.length) ((Hf (⟨x121.up,x121.intact,x121.version,x121.epoch,(⟨x121.config.epoch,x121.config.primary,((x123.config.replicas.drop 0).take x121.config.replicas.length),((x124.config.witnesses.drop 0).take x121.config.witnesses.length)⟩:om),x121.first,((x125.log.drop 0).take x121.log.length),x121.commit,((x126.learned.drop 0).take x121.learned.length)⟩:qQ) (⟨s.2.1.2.2.2.1.1,s.2.1.2.2.2.1.2.1,s.2.2.2.2.2.2.2.2.1,s.2.2.2.2.2.2.2.2.2.1⟩:om) x122 s.2.2.1).bind λy127=>iteP (0<=x119/\x119< (s.2.2.2.2.1.length:Int)) ((s.2.2.2.2.1[x119.toNat]?).bind λ_=>some (.inl (((),(),(),(),(),(),(IntKind.wrap .i64 (s.1.2.2.2.2.2.2.1+1)),()),s.2.1,s.2.2.1,s.2.2.2.1,(s.2.2.2.2.1.set x119.toNat y127.1),s.2.2.2.2.2))) none) none) none) none) none) none) none) none) none) (some (.inr (((),(),(),(),()),s.2.1,s.2.2.2.2)))
def OP:=md KE
def Sx[dL] :=Ib Tryz.f274 [2] OX KE [Ny] [] (by kernel_rfl) λs=>by simp only[KE,tm];kernel_rfl
def Jp(a0:qN):Option (qN×Int×Unit):=
 (FA a0).bind λy1=>(Lk a0.master).bind λy2=>(Fg a0).bind λy3=>br (!y3.1) (some (y1.1,1,())) (br (!y2.2.1) (some (y1.1,1,())) (br (y2.1.epoch==a0.master.activated) (some (y1.1,1,())) (br (decide ((IntKind.wrap .i64 (a0.masterUp*2))<=3)) (some (y1.1,8,())) (iteP (0<=y2.1.primary) ((a0.servers[y2.1.primary.toNat]?).bind λx4=>br (!x4.up) (some (y1.1,2,())) (iteP (0<=y2.1.primary) ((a0.sides[y2.1.primary.toNat]?).bind λx5=>br (!(x5==0)) (some (y1.1,10,())) ((HA a0.lease a0.now).bind λy6=>br (!y6.1) (some (y1.1,7,())) ((Jb a0 y2.1.primary y2.1.epoch).bind λy7=>(KW a0 y2.1.primary).bind λy8=>br (!y8.2.1) (some (y7.1,9,())) ((Ge y2.1).bind λy9=>(Sj (((),(),(),(),(),(),0,()),((a0.now,a0.servers,a0.sides,a0.master.configs,a0.master.activated,a0.masterUp,a0.lease.epoch,a0.lease.holder,a0.lease.ends,a0.places,()),(0,(),(),(),0,0,0,0,0,(),()),(y7.1.now,(),(),(),y7.1.master.activated,y7.1.masterUp,y7.1.lease.epoch,y7.1.lease.holder,y7.1.lease.ends,(),()),(y2.1.epoch,y2.1.primary,(),(),()),()),y8.1,y9.1,y7.1.servers,y7.1.sides,y7.1.master.configs,y7.1.places,y2.1.replicas,y2.1.witnesses,())).bind λe47=>Sum.elim (λe47_0=>some ((⟨e47_0.2.1.2.1.1,e47_0.2.2.2.2.1,e47_0.2.2.2.2.2.1,(⟨e47_0.2.2.2.2.2.2.1,e47_0.2.1.2.1.2.2.2.2.1⟩:kB),e47_0.2.1.2.1.2.2.2.2.2.1,(⟨e47_0.2.1.2.1.2.2.2.2.2.2.1,e47_0.2.1.2.1.2.2.2.2.2.2.2.1,e47_0.2.1.2.1.2.2.2.2.2.2.2.2.1⟩:vz),e47_0.2.2.2.2.2.2.2.1⟩:qN),e47_0.1.2.2.1,())) (λe47_1=>(OO (((),(),(),(),(),(),0,()),e47_1.2)).bind λe85=>Sum.elim (λe85_0=>some ((⟨e85_0.2.1.2.1.1,e85_0.2.2.2.2.1,e85_0.2.2.2.2.2.1,(⟨e85_0.2.2.2.2.2.2.1,e85_0.2.1.2.1.2.2.2.2.1⟩:kB),e85_0.2.1.2.1.2.2.2.2.2.1,(⟨e85_0.2.1.2.1.2.2.2.2.2.2.1,e85_0.2.1.2.1.2.2.2.2.2.2.2.1,e85_0.2.1.2.1.2.2.2.2.2.2.2.2.1⟩:vz),e85_0.2.2.2.2.2.2.2.1⟩:qN),e85_0.1.2.2.1,())) (λe85_1=>(OP (((),(),(),(),(),(),0,()),e85_1.2)).bind λe130=>(G1 (⟨e130.2.1.1.2.2.2.1,e130.2.1.1.2.2.2.2.1⟩:kB) e130.2.1.2.2.2.1.1).bind λy131=>some ((⟨e130.2.1.2.2.1.1,e130.2.2.1,e130.2.2.2.1,y131.1,e130.2.1.2.2.1.2.2.2.2.2.1,(⟨0,0,0⟩:vz),e130.2.2.2.2.2.1⟩:qN),0,())) e85) e47)))) none)) none))))
def O8[dL] :=FB 274 Tryz.f274 TH N9 (λx=>Jp x.1) [FX,Tn,Fk,OL,Si,Uv,IC,MQ] [Sv,Sw,Sx] (by kernel_rfl) λx=>by simp only[Jp,tm];kernel_rfl
def Iq(a0:qN)(a1:Int):Option (Bool×Unit):=
 (Fg a0).bind λy1=>br y1.1 ((Fi a1 0 4).bind λy2=>some (y2.1,())) (some (false,()))
def MU[dL] :=FB 198 Tryz.f198 LU [.b] (λx=>Iq x.1 x.2.1) [Fk,FF] [] (by kernel_rfl) λx=>by simp only[Iq,tm];kernel_rfl
def I7(a0:qN)(a1:Int):Option (qN×Int×Unit):=
 (FA a0).bind λy1=>(Iq a0 a1).bind λy2=>br (!y2.1) (some (y1.1,1,())) (iteP (0<=a1) ((a0.servers[a1.toNat]?).bind λx3=>br (!x3.up) (some (y1.1,2,())) (iteP (0<=a1/\a1< (y1.1.servers.length:Int)) ((y1.1.servers[a1.toNat]?).bind λx4=>some ((⟨y1.1.now,(y1.1.servers.set a1.toNat (⟨false,x4.intact,x4.version,x4.epoch,x4.config,x4.first,x4.log,x4.commit,x4.learned⟩:qQ)),y1.1.sides,y1.1.master,y1.1.masterUp,y1.1.lease,y1.1.places⟩:qN),0,())) none)) none)
def Sd[dL] :=FB 275 Tryz.f275 LU N9 (λx=>I7 x.1 x.2.1) [FX,MU] [] (by kernel_rfl) λx=>by simp only[I7,tm];kernel_rfl
def H6(a0:qN)(a1:Int):Option (qN×Int×Unit):=
 (FA a0).bind λy1=>(Iq a0 a1).bind λy2=>br (!y2.1) (some (y1.1,1,())) (iteP (0<=a1) ((a0.servers[a1.toNat]?).bind λx3=>br x3.up (some (y1.1,1,())) (iteP (0<=a1/\a1< (y1.1.servers.length:Int)) ((y1.1.servers[a1.toNat]?).bind λx4=>some ((⟨y1.1.now,(y1.1.servers.set a1.toNat (⟨true,x4.intact,x4.version,x4.epoch,x4.config,x4.first,x4.log,x4.commit,x4.learned⟩:qQ)),y1.1.sides,y1.1.master,y1.1.masterUp,y1.1.lease,y1.1.places⟩:qN),0,())) none)) none)
def QO[dL] :=FB 276 Tryz.f276 LU N9 (λx=>H6 x.1 x.2.1) [FX,MU] [] (by kernel_rfl) λx=>by simp only[H6,tm];kernel_rfl
def Lm(a0:qQ):Option (qQ×Unit):=
 some ((⟨a0.up,false,a0.version,0,(⟨0,0,([]:List Int),([]:List Int)⟩:om),0,([]:List sf),0,([]:List sf)⟩:qQ),())
def Tx[dL] :=FB 199 Tryz.f199 XC [.st .server] (λx=>Lm x.1) [] [] (by kernel_rfl) λx=>by simp only[Lm,tm];kernel_rfl
def LD(a0:qN)(a1:Int):Option (qN×Int×Unit):=
 (FA a0).bind λy1=>(Iq a0 a1).bind λy2=>br (!y2.1) (some (y1.1,1,())) (iteP (0<=a1) ((a0.servers[a1.toNat]?).bind λx3=>(Lm x3).bind λy4=>iteP (0<=a1/\a1< (y1.1.servers.length:Int)) ((y1.1.servers[a1.toNat]?).bind λ_=>some ((⟨y1.1.now,(y1.1.servers.set a1.toNat y4.1),y1.1.sides,y1.1.master,y1.1.masterUp,y1.1.lease,y1.1.places⟩:qN),0,())) none) none)
def Vl[dL] :=FB 130 Tryz.f130 LU N9 (λx=>LD x.1 x.2.1) [FX,MU,Tx] [] (by kernel_rfl) λx=>by simp only[LD,tm];kernel_rfl
def LF(a0:List Int)(a1:Int)(a2:Int):Option ((List Int)×Bool×Unit):=
 iteP ((([]:List Int)++a0).length*8<=2 ^ 40) ((G3 a0).bind λy1=>br (!y1.1) (some ((([]:List Int)++a0),false,())) ((Fi a1 0 4).bind λy2=>br (!y2.1) (some ((([]:List Int)++a0),false,())) ((Fi a2 0 3).bind λy3=>br (!y3.1) (some ((([]:List Int)++a0),false,())) (iteP (0<=a1/\a1< ((([]:List Int)++a0).length:Int)) (((([]:List Int)++a0)[a1.toNat]?).bind λ_=>some (((([]:List Int)++a0).set a1.toNat a2),true,())) none)))) none
def Vm[dL] :=FB 297 Tryz.f297 YW [.ls (.i .i64),.b] (λx=>LF x.1 x.2.1 x.2.2.1) [Nm,FF] [] (by kernel_rfl) λx=>by simp only[LF,tm];kernel_rfl
def JW(a0:qN)(a1:Int)(a2:Int):Option (qN×Int×Unit):=
 (FA a0).bind λy1=>(LF a0.sides a1 a2).bind λy2=>(Fg a0).bind λy3=>br (!y3.1) (some (y1.1,1,())) (br (!y2.2.1) (some (y1.1,1,())) (some ((⟨y1.1.now,y1.1.servers,y2.1,y1.1.master,y1.1.masterUp,y1.1.lease,y1.1.places⟩:qN),0,())))
def Tp[dL] :=FB 277 Tryz.f277 RG N9 (λx=>JW x.1 x.2.1 x.2.2.1) [FX,Vm,Fk] [] (by kernel_rfl) λx=>by simp only[JW,tm];kernel_rfl
def J0(a0:qN)(a1:Int):Option (qN×Int×Unit):=
 (FA a0).bind λy1=>(Fg a0).bind λy2=>br (!y2.1) (some (y1.1,1,())) ((Fi a1 0 3).bind λy3=>br (!y3.1) (some (y1.1,1,())) (some ((⟨y1.1.now,y1.1.servers,y1.1.sides,y1.1.master,a1,y1.1.lease,y1.1.places⟩:qN),0,())))
def Tv[dL] :=FB 278 Tryz.f278 LU N9 (λx=>J0 x.1 x.2.1) [FX,Fk,FF] [] (by kernel_rfl) λx=>by simp only[J0,tm];kernel_rfl
def Kl(a0:qN)(a1:Int):Option (qN×Int×Unit):=
 (FA a0).bind λy1=>(Fg a0).bind λy2=>br (!y2.1) (some (y1.1,1,())) ((Fi a1 0 (IntKind.wrap .i64 (999-a0.now))).bind λy3=>br (!y3.1) (some (y1.1,1,())) (some ((⟨(IntKind.wrap .i64 (a0.now+a1)),y1.1.servers,y1.1.sides,y1.1.master,y1.1.masterUp,y1.1.lease,y1.1.places⟩:qN),0,())))
def Rn[dL] :=FB 279 Tryz.f279 LU N9 (λx=>Kl x.1 x.2.1) [FX,Fk,FF] [] (by kernel_rfl) λx=>by simp only[Kl,tm];kernel_rfl
def KZ(a0:qN)(a1:Int)(a2:Int):Option (Bool×Unit):=
 (Fg a0).bind λy1=>br (!y1.1) (some (false,())) ((GM a0.sides a1 a2).bind λy2=>br (!y2.1) (some (false,())) (br (a1==a2) (some (false,())) (iteP (0<=a1) ((a0.servers[a1.toNat]?).bind λx3=>(GD x3.config a1).bind λy4=>br x3.up (iteP (0<=a2) ((a0.servers[a2.toNat]?).bind λx5=>br x5.up (br (y4.1==1) (br (x3.config.epoch==a0.master.activated) ((GD x3.config a2).bind λy6=>some ((y6.1==0),())) (some (false,()))) (br (y4.1==2) (br (x3.config.epoch==a0.master.activated) ((GD x3.config a2).bind λy7=>some ((y7.1==0),())) (some (false,()))) (some (false,())))) (some (false,()))) none) (some (false,()))) none)))
def Uz[dL] :=FB 305 Tryz.f305 RG [.b] (λx=>KZ x.1 x.2.1 x.2.2.1) [Fk,Kt,LN] [] (by kernel_rfl) λx=>by simp only[KZ,tm];kernel_rfl
abbrev Mt:LX:=⟨⟨[(0,.cl (.int .i64)),We,UH],[],[],0,31⟩,[(.ext 0,⟨[We,UH],[],[],0,31⟩)],[],[0,3,4],[3,4]⟩
def KF(s: (Int×ByteArray×Bool×Unit)×Unit×Unit):Mt.R:=
 br (!(s.1.1==0)) (let j5 (p4:Int):Mt.R:=iteP (0< ([(IntKind.wrap .u8 (IntKind.wrap .i64 (48+p4)))]:List Int).length/\0+([(IntKind.wrap .u8 (IntKind.wrap .i64 (48+p4)))]:List Int).length<=([(IntKind.wrap .u8 (IntKind.wrap .i64 (48+p4)))]:List Int).length) (iteP ((Cu ((([(IntKind.wrap .u8 (IntKind.wrap .i64 (48+p4)))]:List Int).drop 0).take (([(IntKind.wrap .u8 (IntKind.wrap .i64 (48+p4)))]:List Int).length))).size+s.1.2.1.size<=2 ^ 40) (some (.inl (((IntKind.wrap .i64 (Int.tdiv s.1.1 10)),((Cu ((([(IntKind.wrap .u8 (IntKind.wrap .i64 (48+p4)))]:List Int).drop 0).take (([(IntKind.wrap .u8 (IntKind.wrap .i64 (48+p4)))]:List Int).length)))++s.1.2.1),s.1.2.2),(()),(())))) none) none;br (decide ((Int.tmod s.1.1 10)<0)) (j5 (IntKind.wrap .i64 (0-(Int.tmod s.1.1 10)))) (j5 (Int.tmod s.1.1 10))) (some (.inr (s.1.2,(()),(()))))
def Sk:=md KF
def Sz[dL] :=Ib Tryz.f313 [0] Mt KF [] [] (by kernel_rfl) λs=>by simp only[KF,tm];kernel_rfl
def Gs(a0:Int):Option (ByteArray×Unit):=
 br (a0==0) (some ((⟨⟨[48]⟩⟩:ByteArray),())) ((Sk ((a0,ByteArray.empty,(decide (a0<0)),()),(()),(()))).bind λe6=>br e6.1.2.1 (iteP ((⟨⟨[45]⟩⟩:ByteArray).size+e6.1.1.size<=2 ^ 40) (some (((⟨⟨[45]⟩⟩:ByteArray)++e6.1.1),())) none) (some (e6.1.1,())))
def Qr[dL] :=FB 313 Tryz.f313 Sr [.s] (λx=>Gs x.1) [] [Sz] (by kernel_rfl) λx=>by simp only[Gs,tm];kernel_rfl
def LB(a0:Op):Option (ByteArray×Unit):=
 (FD a0).bind λy1=>br (!y1.1) (some (ByteArray.empty,())) ((Gs a0.client).bind λy2=>iteP (y2.1.size+(⟨⟨[46]⟩⟩:ByteArray).size<=2 ^ 40) ((Gs a0.seq).bind λy3=>iteP ((y2.1++(⟨⟨[46]⟩⟩:ByteArray)).size+y3.1.size<=2 ^ 40) (iteP (((y2.1++(⟨⟨[46]⟩⟩:ByteArray))++y3.1).size+(⟨⟨[32]⟩⟩:ByteArray).size<=2 ^ 40) (br (a0.kind==1) (iteP ((((y2.1++(⟨⟨[46]⟩⟩:ByteArray))++y3.1)++(⟨⟨[32]⟩⟩:ByteArray)).size+(⟨⟨[119,114,105,116,101,32]⟩⟩:ByteArray).size<=2 ^ 40) ((Gs a0.object).bind λy4=>iteP (((((y2.1++(⟨⟨[46]⟩⟩:ByteArray))++y3.1)++(⟨⟨[32]⟩⟩:ByteArray))++(⟨⟨[119,114,105,116,101,32]⟩⟩:ByteArray)).size+y4.1.size<=2 ^ 40) (iteP ((((((y2.1++(⟨⟨[46]⟩⟩:ByteArray))++y3.1)++(⟨⟨[32]⟩⟩:ByteArray))++(⟨⟨[119,114,105,116,101,32]⟩⟩:ByteArray))++y4.1).size+(⟨⟨[32]⟩⟩:ByteArray).size<=2 ^ 40) ((Gs a0.value).bind λy5=>iteP (((((((y2.1++(⟨⟨[46]⟩⟩:ByteArray))++y3.1)++(⟨⟨[32]⟩⟩:ByteArray))++(⟨⟨[119,114,105,116,101,32]⟩⟩:ByteArray))++y4.1)++(⟨⟨[32]⟩⟩:ByteArray)).size+y5.1.size<=2 ^ 40) (some ((((((((y2.1++(⟨⟨[46]⟩⟩:ByteArray))++y3.1)++(⟨⟨[32]⟩⟩:ByteArray))++(⟨⟨[119,114,105,116,101,32]⟩⟩:ByteArray))++y4.1)++(⟨⟨[32]⟩⟩:ByteArray))++y5.1),())) none) none) none) none) (iteP ((((y2.1++(⟨⟨[46]⟩⟩:ByteArray))++y3.1)++(⟨⟨[32]⟩⟩:ByteArray)).size+(⟨⟨[115,119,97,112,32]⟩⟩:ByteArray).size<=2 ^ 40) ((Gs a0.object).bind λy6=>iteP (((((y2.1++(⟨⟨[46]⟩⟩:ByteArray))++y3.1)++(⟨⟨[32]⟩⟩:ByteArray))++(⟨⟨[115,119,97,112,32]⟩⟩:ByteArray)).size+y6.1.size<=2 ^ 40) (iteP ((((((y2.1++(⟨⟨[46]⟩⟩:ByteArray))++y3.1)++(⟨⟨[32]⟩⟩:ByteArray))++(⟨⟨[115,119,97,112,32]⟩⟩:ByteArray))++y6.1).size+(⟨⟨[32]⟩⟩:ByteArray).size<=2 ^ 40) ((Gs a0.old).bind λy7=>iteP (((((((y2.1++(⟨⟨[46]⟩⟩:ByteArray))++y3.1)++(⟨⟨[32]⟩⟩:ByteArray))++(⟨⟨[115,119,97,112,32]⟩⟩:ByteArray))++y6.1)++(⟨⟨[32]⟩⟩:ByteArray)).size+y7.1.size<=2 ^ 40) (iteP ((((((((y2.1++(⟨⟨[46]⟩⟩:ByteArray))++y3.1)++(⟨⟨[32]⟩⟩:ByteArray))++(⟨⟨[115,119,97,112,32]⟩⟩:ByteArray))++y6.1)++(⟨⟨[32]⟩⟩:ByteArray))++y7.1).size+(⟨⟨[32]⟩⟩:ByteArray).size<=2 ^ 40) ((Gs a0.value).bind λy8=>iteP (((((((((y2.1++(⟨⟨[46]⟩⟩:ByteArray))++y3.1)++(⟨⟨[32]⟩⟩:ByteArray))++(⟨⟨[115,119,97,112,32]⟩⟩:ByteArray))++y6.1)++(⟨⟨[32]⟩⟩:ByteArray))++y7.1)++(⟨⟨[32]⟩⟩:ByteArray)).size+y8.1.size<=2 ^ 40) (some ((((((((((y2.1++(⟨⟨[46]⟩⟩:ByteArray))++y3.1)++(⟨⟨[32]⟩⟩:ByteArray))++(⟨⟨[115,119,97,112,32]⟩⟩:ByteArray))++y6.1)++(⟨⟨[32]⟩⟩:ByteArray))++y7.1)++(⟨⟨[32]⟩⟩:ByteArray))++y8.1),())) none) none) none) none) none) none)) none) none) none)
def Vj[dL] :=FB 314 Tryz.f314 V7 [.s] (λx=>LB x.1) [K3,Qr] [] (by kernel_rfl) λx=>by simp only[LB,tm];kernel_rfl
abbrev Mu:LX:=⟨⟨[Mh,We,M2],[],[],0,38⟩,[(.ext 0,⟨[We],[],[],0,38⟩)],[],[0,3,4],[3]⟩
def KG(s: (List sf×ByteArray×Int×Unit)×Unit×Unit):Mu.R:=
 br (decide (s.1.2.2.1< (s.1.1.length:Int))) (let j10 (p5:ByteArray):Mu.R:=iteP (0<=s.1.2.2.1) ((s.1.1[s.1.2.2.1.toNat]?).bind λx6=>(Gs x6.epoch).bind λy7=>iteP (p5.size+y7.1.size<=2 ^ 40) (iteP ((p5++y7.1).size+(⟨⟨[58]⟩⟩:ByteArray).size<=2 ^ 40) (iteP (0<=s.1.2.2.1) ((s.1.1[s.1.2.2.1.toNat]?).bind λx8=>(LB x8.op).bind λy9=>iteP (((p5++y7.1)++(⟨⟨[58]⟩⟩:ByteArray)).size+y9.1.size<=2 ^ 40) (some (.inl ((s.1.1,(((p5++y7.1)++(⟨⟨[58]⟩⟩:ByteArray))++y9.1),(IntKind.wrap .i64 (s.1.2.2.1+1)),()),(()),(())))) none) none) none) none) none;br (decide (s.1.2.2.1>0)) (iteP (s.1.2.1.size+(⟨⟨[59]⟩⟩:ByteArray).size<=2 ^ 40) (j10 (s.1.2.1++(⟨⟨[59]⟩⟩:ByteArray))) none) (j10 s.1.2.1)) (some (.inr ((s.1.2.1,()),(()),(()))))
def Sl:=md KG
def SA[dL] :=Ib Tryz.f312 [0] Mu KG [Qr,Vj] [] (by kernel_rfl) λs=>by simp only[KG,tm];kernel_rfl
def KT(a0:List sf):Option (ByteArray×Unit):=
 (FZ a0).bind λy1=>br (!y1.1) (some (ByteArray.empty,())) (br ((a0.length:Int)==0) (some ((⟨⟨[110,111,110,101]⟩⟩:ByteArray),())) ((Sl ((a0,ByteArray.empty,0,()),(()),(()))).bind λe11=>some e11.1))
def Ur[dL] :=FB 312 Tryz.f312 Qf [.s] (λx=>KT x.1) [Lq] [SA] (by kernel_rfl) λx=>by simp only[KT,tm];kernel_rfl
abbrev PS:LX:=⟨⟨[(0,.cl (.str)),N6,M2],[],[],0,21⟩,[(.ext 0,⟨[N6],[],[],0,21⟩)],[],[0,3,4],[3]⟩
def Lf(s: (ByteArray×Int×Int×Unit)×Unit×Unit):PS.R:=
 br (decide (s.1.2.2.1< (s.1.1.size:Int))) (iteP (0<=s.1.2.2.1) ((s.1.1[s.1.2.2.1.toNat]?).bind λx4=>some (.inl ((s.1.1,(Int.tmod (IntKind.wrap .i64 ((IntKind.wrap .i64 ((IntKind.wrap .i64 (s.1.2.1*257))+(IntKind.wrap .i64 (x4.toNat:Int))))+1)) 9949),(IntKind.wrap .i64 (s.1.2.2.1+1)),()),(()),(())))) none) (some (.inr ((s.1.2.1,()),(()),(()))))
def TF:=md Lf
def TV[dL] :=Ib Tryz.f311 [0] PS Lf [] [] (by kernel_rfl) λs=>by simp only[Lf,tm];kernel_rfl
def Lz(a0:ByteArray):Option (Int×Unit):=
 (TF ((a0,5,0,()),(()),(()))).bind λe5=>some e5.1
def Vh[dL] :=FB 311 Tryz.f311 [.ty (.s)] Kz (λx=>Lz x.1) [] [TV] (by kernel_rfl) λx=>by simp only[Lz,tm];kernel_rfl
abbrev Od:LX:=⟨⟨[Mh,QB,M2,Nr],[],Ir,0,37⟩,[(.ext 0,⟨[QB],[],Ir,0,37⟩)],[],[0,3,4,5],[3]⟩
def JG(s: (List sf×Unit×Int×Int×Unit)×Unit×List Int×Unit):Od.R:=
 br (decide (s.1.2.2.2.1< (s.1.1.length:Int))) (iteP (0<=s.1.2.2.2.1/\s.1.2.2.2.1<=(IntKind.wrap .i64 (s.1.2.2.2.1+1))/\(IntKind.wrap .i64 (s.1.2.2.2.1+1))<=(s.1.1.length:Int)) ((KT ((s.1.1.drop s.1.2.2.2.1.toNat).take ((IntKind.wrap .i64 (s.1.2.2.2.1+1)).toNat-s.1.2.2.2.1.toNat))).bind λy6=>(Lz y6.1).bind λy7=>iteP ((s.2.2.1++([(Int.tmod (IntKind.wrap .i64 ((IntKind.wrap .i64 (s.1.2.2.1*31))+y7.1)) 9973)]:List Int)).length*8<=2 ^ 40) (some (.inl ((s.1.1,(),(Int.tmod (IntKind.wrap .i64 ((IntKind.wrap .i64 (s.1.2.2.1*31))+y7.1)) 9973),(IntKind.wrap .i64 (s.1.2.2.2.1+1)),()),(()),(s.2.2.1++([(Int.tmod (IntKind.wrap .i64 ((IntKind.wrap .i64 (s.1.2.2.1*31))+y7.1)) 9973)]:List Int)),()))) none) none) (some (.inr (((),()),(()),s.2.2)))
def RB:=md JG
def RY[dL] :=Ib Tryz.f310 [0] Od JG [Ur,Vh] [] (by kernel_rfl) λs=>by simp only[JG,tm];kernel_rfl
def JT(a0:List sf):Option ((List Int)×Unit):=
 (FZ a0).bind λy1=>br (!y1.1) (some (([]:List Int),())) (iteP ((([]:List Int)++([11]:List Int)).length*8<=2 ^ 40) ((RB ((a0,(),11,0,()),(()),(([]:List Int)++([11]:List Int)),())).bind λe8=>some e8.2.2) none)
def Tj[dL] :=FB 310 Tryz.f310 Qf Lt (λx=>JT x.1) [Lq] [RY] (by kernel_rfl) λx=>by simp only[JT,tm];kernel_rfl
def Kk(a0:List sf)(a1:Int):Option (Int×Unit):=
 (JT a0).bind λy1=>(Fi a1 0 (IntKind.wrap .i64 ((y1.1.length:Int)-1))).bind λy2=>br (!y2.1) (some ((-1),())) (iteP (0<=a1/\a1< (y1.1.length:Int)) ((y1.1[a1.toNat]?).bind λx3=>some (x3,())) none)
def Rj[dL] :=FB 309 Tryz.f309 XA Kz (λx=>Kk x.1 x.2.1) [Tj,FF] [] (by kernel_rfl) λx=>by simp only[Kk,tm];kernel_rfl
def Jl(a0:qQ):Option (Int×Unit):=
 (Kk a0.learned (a0.learned.length:Int)).bind λy1=>some (y1.1,())
def QN[dL] :=FB 307 Tryz.f307 XC Kz (λx=>Jl x.1) [Rj] [] (by kernel_rfl) λx=>by simp only[Jl,tm];kernel_rfl
def JZ(a0:List sf)(a1:Int)(a2:Int):Option (Bool×Unit):=
 br (decide (a2≥0)) ((Kk a0 a1).bind λy1=>some ((y1.1==a2),())) (some (false,()))
def Rq[dL] :=FB 306 Tryz.f306 YT [.b] (λx=>JZ x.1 x.2.1 x.2.2.1) [Rj] [] (by kernel_rfl) λx=>by simp only[JZ,tm];kernel_rfl
def I5(a0:qN)(a1:Int)(a2:Int):Option (Int×Unit):=
 (KZ a0 a1 a2).bind λy1=>br (!y1.1) (some ((-1),())) (iteP (0<=a1) ((a0.servers[a1.toNat]?).bind λx2=>(Fs x2).bind λy3=>iteP (0<=a2) ((a0.servers[a2.toNat]?).bind λx4=>iteP (0<=a2) ((a0.servers[a2.toNat]?).bind λx5=>(Jl x5).bind λy6=>(JZ y3.1 (x4.learned.length:Int) y6.1).bind λy7=>br (!y7.1) (some ((IntKind.wrap .i64 ((y3.1.length:Int)-0)),())) (some ((IntKind.wrap .i64 ((y3.1.length:Int)-(x4.learned.length:Int))),()))) none) none) none)
def Sb[dL] :=FB 298 Tryz.f298 RG Kz (λx=>I5 x.1 x.2.1 x.2.2.1) [Uz,H9,QN,Rq] [] (by kernel_rfl) λx=>by simp only[I5,tm];kernel_rfl
def I6(a0:qN)(a1:Int)(a2:Int)(a3:Int):Option (qN×Int×Unit):=
 (FA a0).bind λy1=>(I5 a0 a1 a2).bind λy2=>br (decide (y2.1<0)) (some (y1.1,0,())) ((Fi a3 1 4).bind λy3=>br (!y3.1) (some (y1.1,0,())) (iteP (0<=a1) ((a0.servers[a1.toNat]?).bind λx4=>(Fs x4).bind λy5=>iteP (0<=(0:Int)/\(0:Int)<=(IntKind.wrap .i64 ((IntKind.wrap .i64 ((y5.1.length:Int)-y2.1))+(if a3<y2.1 then a3 else y2.1)))/\(IntKind.wrap .i64 ((IntKind.wrap .i64 ((y5.1.length:Int)-y2.1))+(if a3<y2.1 then a3 else y2.1)))<=((y5.1.length:Nat):Int)) (iteP ((0+(0:Int).toNat)+((IntKind.wrap .i64 ((IntKind.wrap .i64 ((y5.1.length:Int)-y2.1))+(if a3<y2.1 then a3 else y2.1))).toNat-(0:Int).toNat)<=y5.1.length) ((Gx ((y5.1.drop (0+(0:Int).toNat)).take ((IntKind.wrap .i64 ((IntKind.wrap .i64 ((y5.1.length:Int)-y2.1))+(if a3<y2.1 then a3 else y2.1))).toNat-(0:Int).toNat))).bind λy6=>iteP (0<=a2/\a2< (y1.1.servers.length:Int)) ((y1.1.servers[a2.toNat]?).bind λx7=>some ((⟨y1.1.now,(y1.1.servers.set a2.toNat (⟨x7.up,x7.intact,x7.version,x7.epoch,x7.config,x7.first,x7.log,x7.commit,y6.1⟩:qQ)),y1.1.sides,y1.1.master,y1.1.masterUp,y1.1.lease,y1.1.places⟩:qN),(if a3<y2.1 then a3 else y2.1),())) none) none) none) none))
def Sc[dL] :=FB 280 Tryz.f280 XB N9 (λx=>I6 x.1 x.2.1 x.2.2.1 x.2.2.2.1) [FX,Sb,FF,H9,Jc] [] (by kernel_rfl) λx=>by simp only[I6,tm];kernel_rfl
def H8(a0:qN)(a1:Int):Option (qN×Int×Unit):=
 (FA a0).bind λy1=>(Iq a0 a1).bind λy2=>br (!y2.1) (some (y1.1,1,())) (iteP (0<=a1) ((a0.servers[a1.toNat]?).bind λx3=>br (x3.version==2) (some (y1.1,1,())) (iteP (0<=a1) ((a0.servers[a1.toNat]?).bind λx4=>br (!x4.up) (some (y1.1,2,())) (iteP (0<=a1/\a1< (y1.1.servers.length:Int)) ((y1.1.servers[a1.toNat]?).bind λx5=>some ((⟨y1.1.now,(y1.1.servers.set a1.toNat (⟨x5.up,x5.intact,2,x5.epoch,x5.config,x5.first,x5.log,x5.commit,x5.learned⟩:qQ)),y1.1.sides,y1.1.master,y1.1.masterUp,y1.1.lease,y1.1.places⟩:qN),0,())) none)) none)) none)
def QQ[dL] :=FB 281 Tryz.f281 LU N9 (λx=>H8 x.1 x.2.1) [FX,MU] [] (by kernel_rfl) λx=>by simp only[H8,tm];kernel_rfl
def HO(a0:List sf):Option (Bool×Unit):=
 (G5 a0).bind λy1=>some (y1.1,())
def NX[dL] :=FB 67 Tryz.f67 Qf [.b] (λx=>HO x.1) [LO] [] (by kernel_rfl) λx=>by simp only[HO,tm];kernel_rfl
abbrev IH:LX:=⟨⟨[K7,N7,OT,(6,.cl (.ptr 2 0)),UI,PN],[K8,M3,VF,Zr],XP,0,80⟩,[(.ret,⟨[K7,M1,Nr,ND],[VF,VF],XP,0,80⟩),(.ext 0,⟨[K7,M1,XE,ND],[M3,VF],XP,0,80⟩)],[],[1,2,4,6,7,8],[1,4,5,6]⟩
def Hi(s: (Int×Unit×Unit×Unit×Unit×Int×Unit)×(N8×Ns×Ns×Zg×Unit)×List qQ×List Int×List om×List vB×Unit):IH.R:=
 br (decide (s.1.2.2.2.2.2.1< (s.2.1.1.2.1.length:Int))) ((Ip (⟨s.2.1.2.2.2.1.2.2.2.2.1,s.2.1.2.2.2.1.2.2.2.2.2.1,s.2.1.2.2.2.1.2.2.2.2.2.2.1,s.2.1.2.2.2.1.2.2.2.2.2.2.2.1⟩:om)).bind λy47=>br (!y47.1) (iteP (0<=s.1.2.2.2.2.2.1) ((s.2.1.1.2.1[s.1.2.2.2.2.2.1.toNat]?).bind λx48=>(Gm x48.config (⟨s.2.1.2.2.2.1.2.2.2.2.1,s.2.1.2.2.2.1.2.2.2.2.2.1,s.2.1.2.2.2.1.2.2.2.2.2.2.1,s.2.1.2.2.2.1.2.2.2.2.2.2.2.1⟩:om)).bind λy49=>let j52:IH.R:=some (.inl ((s.1.1,(),(),(),(),(IntKind.wrap .i64 (s.1.2.2.2.2.2.1+1)),()),s.2));br y49.1 (iteP (0<=s.1.2.2.2.2.2.1) ((s.2.1.1.2.1[s.1.2.2.2.2.2.1.toNat]?).bind λx50=>(HO x50.log).bind λy51=>br y51.1 (some (.inr (.inl ((s.1.1,(),6,(),()),(s.2.1.2.2.1,s.2.1.2.2.1,()),s.2.2)))) (j52)) none) (j52)) none) (some (.inr (.inr ((s.1.1,(),(),(),()),(s.2.1.2.1,s.2.1.2.2.1,()),s.2.2))))) (some (.inr (.inr ((s.1.1,(),(),(),()),(s.2.1.2.1,s.2.1.2.2.1,()),s.2.2))))
def N2:=md Hi
def Oj[dL] :=Ib Tryz.f282 [0] IH Hi [NX,Oz,J4] [] (by kernel_rfl) λs=>by simp only[Hi,tm];kernel_rfl
def Hm(a0:qN)(a1:Int):Option (qN×Int×Unit):=
 (FA a0).bind λy1=>(Iq a0 a1).bind λy2=>br (!y2.1) (some (y1.1,1,())) (iteP (0<=a1) ((a0.servers[a1.toNat]?).bind λx3=>br (x3.version==1) (some (y1.1,1,())) (iteP (0<=a1) ((a0.servers[a1.toNat]?).bind λx4=>br (!x4.up) (some (y1.1,2,())) (iteP (0<=a1) ((a0.servers[a1.toNat]?).bind λx5=>(HO x5.learned).bind λy6=>br y6.1 (some (y1.1,6,())) ((N2 ((a1,(),(),(),(),0,()),((a0.now,a0.servers,a0.sides,a0.master.configs,a0.master.activated,a0.masterUp,a0.lease.epoch,a0.lease.holder,a0.lease.ends,a0.places,()),(0,(),(),(),0,0,0,0,0,(),()),(y1.1.now,(),(),(),y1.1.master.activated,y1.1.masterUp,y1.1.lease.epoch,y1.1.lease.holder,y1.1.lease.ends,(),()),(x5.up,x5.intact,x5.version,x5.epoch,x5.config.epoch,x5.config.primary,x5.config.replicas,x5.config.witnesses,x5.first,x5.log,x5.commit,x5.learned,()),()),y1.1.servers,y1.1.sides,y1.1.master.configs,y1.1.places,())).bind λe53=>Sum.elim (λe53_0=>some ((⟨e53_0.2.1.1.1,e53_0.2.2.1,e53_0.2.2.2.1,(⟨e53_0.2.2.2.2.1,e53_0.2.1.1.2.2.2.2.1⟩:kB),e53_0.2.1.1.2.2.2.2.2.1,(⟨e53_0.2.1.1.2.2.2.2.2.2.1,e53_0.2.1.1.2.2.2.2.2.2.2.1,e53_0.2.1.1.2.2.2.2.2.2.2.2.1⟩:vz),e53_0.2.2.2.2.2.1⟩:qN),e53_0.1.2.2.1,())) (λe53_1=>iteP (0<=e53_1.1.1/\e53_1.1.1< (e53_1.2.2.1.length:Int)) ((e53_1.2.2.1[e53_1.1.1.toNat]?).bind λx54=>some ((⟨e53_1.2.1.2.1.1,(e53_1.2.2.1.set e53_1.1.1.toNat (⟨x54.up,x54.intact,1,x54.epoch,x54.config,x54.first,x54.log,x54.commit,x54.learned⟩:qQ)),e53_1.2.2.2.1,(⟨e53_1.2.2.2.2.1,e53_1.2.1.2.1.2.2.2.2.1⟩:kB),e53_1.2.1.2.1.2.2.2.2.2.1,(⟨e53_1.2.1.2.1.2.2.2.2.2.2.1,e53_1.2.1.2.1.2.2.2.2.2.2.2.1,e53_1.2.1.2.1.2.2.2.2.2.2.2.2.1⟩:vz),e53_1.2.2.2.2.2.1⟩:qN),0,())) none) e53)) none)) none)) none)
def PA[dL] :=FB 282 Tryz.f282 LU N9 (λx=>Hm x.1 x.2.1) [FX,MU,NX] [Oj] (by kernel_rfl) λx=>by simp only[Hm,tm];kernel_rfl
abbrev L5:LX:=⟨⟨[J9,SN,MZ,Mg],[K8,UM],Zv,0,64⟩,[(.ret,⟨[PJ,PK],[Zs],ZJ,0,64⟩),(.ext 0,⟨[OD,PK],[Zs],ZJ,0,64⟩)],[],[1,3,5,6],[2,3]⟩
def HV(s:Yy×(N8×TM×Unit)×List Int×List Int×List Int×Unit):L5.R:=
 br (decide (s.1.2.2.2.1< (s.2.2.1.length:Int))) (iteP (0<=s.1.2.2.2.1/\s.1.2.2.2.1< (s.2.2.1.length:Int)) ((s.2.2.1[s.1.2.2.2.1.toNat]?).bind λx23=>(Kq (⟨s.2.1.1.1,s.2.1.1.2.1,s.2.1.1.2.2.1,(⟨s.2.1.1.2.2.2.1,s.2.1.1.2.2.2.2.1⟩:kB),s.2.1.1.2.2.2.2.2.1,(⟨s.2.1.1.2.2.2.2.2.2.1,s.2.1.1.2.2.2.2.2.2.2.1,s.2.1.1.2.2.2.2.2.2.2.2.1⟩:vz),s.2.1.1.2.2.2.2.2.2.2.2.2.1⟩:qN) s.2.1.2.1.2.1 x23).bind λy24=>br (!y24.1) (some (.inr (.inl (((-1),(),()),s.2.1.2,s.2.2.2)))) (some (.inl (((),(),(),(IntKind.wrap .i64 (s.1.2.2.2.1+1)),()),s.2)))) none) (some (.inr (.inr (((),(),()),s.2.1.2,s.2.2.2))))
def Pc:=md HV
def Pn[dL] :=Ib Tryz.f308 [0] L5 HV [Ru] [] (by kernel_rfl) λs=>by simp only[HV,tm];kernel_rfl
def HP(a0:qN):Option (Int×Unit):=
 (FU a0.master).bind λy1=>(Fg a0).bind λy2=>br (!y2.1) (some ((-1),())) (br (!y1.2.1) (some ((-1),())) (iteP (0<=y1.1.primary) ((a0.servers[y1.1.primary.toNat]?).bind λx3=>(FT x3 y1.1.primary).bind λy4=>br (!y4.1) (some ((-1),())) (iteP (0<=y1.1.primary) ((a0.servers[y1.1.primary.toNat]?).bind λx5=>br (!(x5.config.epoch==y1.1.epoch)) (some ((-1),())) ((Ge y1.1).bind λy6=>(Pc (((),(),(),0,()),((a0.now,a0.servers,a0.sides,a0.master.configs,a0.master.activated,a0.masterUp,a0.lease.epoch,a0.lease.holder,a0.lease.ends,a0.places,()),(y1.1.epoch,y1.1.primary,(),(),()),()),y6.1,y1.1.replicas,y1.1.witnesses,())).bind λe25=>Sum.elim (λe25_0=>some (e25_0.1.1,())) (λe25_1=>some (e25_1.2.1.1.2.1,())) e25)) none)) none))
def P6[dL] :=FB 308 Tryz.f308 TH Kz (λx=>HP x.1) [GN,Fk,HS,IC] [Pn] (by kernel_rfl) λx=>by simp only[HP,tm];kernel_rfl
def JA(a0:qN):Option (Bool×Unit):=
 (HP a0).bind λy1=>some ((decide (y1.1≥0)),())
def Qs[dL] :=FB 300 Tryz.f300 TH [.b] (λx=>JA x.1) [P6] [] (by kernel_rfl) λx=>by simp only[JA,tm];kernel_rfl
def KU(a0:qN)(a1:Int):Option (Int×Unit):=
 (FU a0.master).bind λy1=>(Fg a0).bind λy2=>br (!y2.1) (some (1,())) (br (!y1.2.1) (some (1,())) ((FC y1.1.replicas a1).bind λy3=>br (!y3.1) (some (1,())) (br (a1==y1.1.primary) (some (1,())) (br (!((a0.master.configs.length:Int)==y1.1.epoch)) (some (1,())) (br (y1.1.epoch==20) (some (1,())) (br (decide ((IntKind.wrap .i64 (a0.masterUp*2))<=3)) (some (8,())) ((JA a0).bind λy4=>br (!y4.1) (some (10,())) (iteP (0<=y1.1.primary) ((a0.sides[y1.1.primary.toNat]?).bind λx5=>br (!(x5==0)) (some (10,())) (br (decide (a0.lease.ends>0)) (br (!(a0.lease.holder==y1.1.primary)) (some (7,())) (some (0,()))) (some (0,())))) none))))))))
def Us[dL] :=FB 299 Tryz.f299 LU Kz (λx=>KU x.1 x.2.1) [GN,Fk,GU,Qs] [] (by kernel_rfl) λx=>by simp only[KU,tm];kernel_rfl
def H7(a0:qN)(a1:Int):Option (qN×Int×Unit):=
 (FA a0).bind λy1=>(KU a0 a1).bind λy2=>br (!(y2.1==0)) (some (y1.1,y2.1,())) ((FU a0.master).bind λy3=>(He a0 y3.1.primary).bind λy4=>(HB (⟨y4.1.now,y4.1.servers,y4.1.sides,y4.1.master,y4.1.masterUp,(⟨0,0,0⟩:vz),y4.1.places⟩:qN) (⟨(IntKind.wrap .i64 (y3.1.epoch+1)),a1,y3.1.replicas,y3.1.witnesses⟩:om)).bind λy5=>(Jp y5.1).bind λy6=>some (y6.1,y6.2.1,()))
def QP[dL] :=FB 283 Tryz.f283 LU N9 (λx=>H7 x.1 x.2.1) [FX,Us,GN,Nx,Ml,O8] [] (by kernel_rfl) λx=>by simp only[H7,tm];kernel_rfl
def Ja(a0:qN)(a1:Int)(a2:Int):Option (qN×Int×Unit):=
 (FA a0).bind λy1=>(Fg a0).bind λy2=>br (!y2.1) (some (y1.1,1,())) ((Fi a2 1 50).bind λy3=>br (!y3.1) (some (y1.1,1,())) ((JA a0).bind λy4=>br y4.1 (some (y1.1,0,())) ((IU a0 a1 0).bind λy5=>br (!y5.2.1) (some (y1.1,10,())) ((HB a0 y5.1).bind λy6=>br (!(y6.2.1==0)) (some (y1.1,y6.2.1,())) ((Kn a0.lease).bind λy7=>(Kl y6.1 (if (IntKind.wrap .i64 (y7.1-a0.now))>0 then (IntKind.wrap .i64 (y7.1-a0.now)) else 0)).bind λy8=>br (!(y8.2.1==0)) (some (y1.1,y8.2.1,())) ((Jp y8.1).bind λy9=>br (!(y9.2.1==0)) (some (y9.1,y9.2.1,())) ((IV y9.1 y5.1.primary a2).bind λy10=>some (y10.1,y10.2.1,()))))))))
def Sg[dL] :=FB 284 Tryz.f284 RG N9 (λx=>Ja x.1 x.2.1 x.2.2.1) [FX,Fk,FF,Qs,PB,Ml,Rs,Rn,O8,PC] [] (by kernel_rfl) λx=>by simp only[Ja,tm];kernel_rfl
def MM(a0:qN)(a1:xx):Option (qN×Int×Unit):=
 let j28 (p17:Int) (p18:List qQ) (p19:List Int) (p20:List om) (p21:Int) (p22:Int) (p23:Int) (p24:Int) (p25:Int) (p26:List vB) (p27:Int):Option (qN×Int×Unit):=some ((⟨p17,p18,p19,(⟨p20,p21⟩:kB),p22,(⟨p23,p24,p25⟩:vz),p26⟩:qN),p27,());br (a1.kind==3) ((IV a0 a1.server a1.n).bind λy1=>j28 y1.1.now y1.1.servers y1.1.sides y1.1.master.configs y1.1.master.activated y1.1.masterUp y1.1.lease.epoch y1.1.lease.holder y1.1.lease.ends y1.1.places y1.2.1) (br (a1.kind==4) ((IU a0 a1.n a1.other).bind λy2=>br (!y2.2.1) ((FA a0).bind λy3=>some (y3.1,10,())) ((HB a0 y2.1).bind λy4=>j28 y4.1.now y4.1.servers y4.1.sides y4.1.master.configs y4.1.master.activated y4.1.masterUp y4.1.lease.epoch y4.1.lease.holder y4.1.lease.ends y4.1.places y4.2.1)) (br (a1.kind==5) ((Jp a0).bind λy5=>j28 y5.1.now y5.1.servers y5.1.sides y5.1.master.configs y5.1.master.activated y5.1.masterUp y5.1.lease.epoch y5.1.lease.holder y5.1.lease.ends y5.1.places y5.2.1) (br (a1.kind==6) ((I7 a0 a1.server).bind λy6=>j28 y6.1.now y6.1.servers y6.1.sides y6.1.master.configs y6.1.master.activated y6.1.masterUp y6.1.lease.epoch y6.1.lease.holder y6.1.lease.ends y6.1.places y6.2.1) (br (a1.kind==7) ((H6 a0 a1.server).bind λy7=>j28 y7.1.now y7.1.servers y7.1.sides y7.1.master.configs y7.1.master.activated y7.1.masterUp y7.1.lease.epoch y7.1.lease.holder y7.1.lease.ends y7.1.places y7.2.1) (br (a1.kind==8) ((LD a0 a1.server).bind λy8=>j28 y8.1.now y8.1.servers y8.1.sides y8.1.master.configs y8.1.master.activated y8.1.masterUp y8.1.lease.epoch y8.1.lease.holder y8.1.lease.ends y8.1.places y8.2.1) (br (a1.kind==9) ((JW a0 a1.server a1.n).bind λy9=>j28 y9.1.now y9.1.servers y9.1.sides y9.1.master.configs y9.1.master.activated y9.1.masterUp y9.1.lease.epoch y9.1.lease.holder y9.1.lease.ends y9.1.places y9.2.1) (br (a1.kind==10) ((J0 a0 a1.n).bind λy10=>j28 y10.1.now y10.1.servers y10.1.sides y10.1.master.configs y10.1.master.activated y10.1.masterUp y10.1.lease.epoch y10.1.lease.holder y10.1.lease.ends y10.1.places y10.2.1) (br (a1.kind==11) ((Kl a0 a1.n).bind λy11=>j28 y11.1.now y11.1.servers y11.1.sides y11.1.master.configs y11.1.master.activated y11.1.masterUp y11.1.lease.epoch y11.1.lease.holder y11.1.lease.ends y11.1.places y11.2.1) (br (a1.kind==12) ((I6 a0 a1.server a1.other a1.n).bind λy12=>br (y12.2.1==0) (j28 y12.1.now y12.1.servers y12.1.sides y12.1.master.configs y12.1.master.activated y12.1.masterUp y12.1.lease.epoch y12.1.lease.holder y12.1.lease.ends y12.1.places 11) (j28 y12.1.now y12.1.servers y12.1.sides y12.1.master.configs y12.1.master.activated y12.1.masterUp y12.1.lease.epoch y12.1.lease.holder y12.1.lease.ends y12.1.places 0)) (br (a1.kind==13) ((H8 a0 a1.server).bind λy13=>j28 y13.1.now y13.1.servers y13.1.sides y13.1.master.configs y13.1.master.activated y13.1.masterUp y13.1.lease.epoch y13.1.lease.holder y13.1.lease.ends y13.1.places y13.2.1) (br (a1.kind==14) ((Hm a0 a1.server).bind λy14=>j28 y14.1.now y14.1.servers y14.1.sides y14.1.master.configs y14.1.master.activated y14.1.masterUp y14.1.lease.epoch y14.1.lease.holder y14.1.lease.ends y14.1.places y14.2.1) (br (a1.kind==15) ((H7 a0 a1.server).bind λy15=>j28 y15.1.now y15.1.servers y15.1.sides y15.1.master.configs y15.1.master.activated y15.1.masterUp y15.1.lease.epoch y15.1.lease.holder y15.1.lease.ends y15.1.places y15.2.1) ((Ja a0 a1.other a1.n).bind λy16=>j28 y16.1.now y16.1.servers y16.1.sides y16.1.master.configs y16.1.master.activated y16.1.masterUp y16.1.lease.epoch y16.1.lease.holder y16.1.lease.ends y16.1.places y16.2.1)))))))))))))
def WJ[dL] :=FB 252 Tryz.f252 YZ N9 (λx=>MM x.1 x.2.1) [PC,PB,FX,Ml,O8,Sd,QO,Vl,Tp,Tv,Rn,Sc,QQ,PA,QP,Sg] [] (by kernel_rfl) λx=>by simp only[MM,tm];kernel_rfl
def LG(a0:qN)(a1:xx):Option (qN×xB×Unit):=
 (Fg a0).bind λy1=>br (!y1.1) ((FA a0).bind λy2=>some (y2.1,(⟨1,(⟨false,0⟩:Result),0⟩:xB),())) ((Ix a1).bind λy3=>br (!y3.1) ((FA a0).bind λy4=>some (y4.1,(⟨1,(⟨false,0⟩:Result),0⟩:xB),())) (br (a1.kind==1) ((LA a0 a1.server a1.op).bind λy5=>some (y5.1,y5.2.1,())) (br (a1.kind==2) ((FA a0).bind λy6=>(HT a0 a1.server a1.n).bind λy7=>some (y6.1,y7.1,())) ((MM a0 a1).bind λy8=>some (y8.1,(⟨y8.2.1,(⟨false,0⟩:Result),0⟩:xB),())))))
def Vo[dL] :=FB 235 Tryz.f235 YZ Zl (λx=>LG x.1 x.2.1) [Fk,FX,Rm,Vi,Qt,WJ] [] (by kernel_rfl) λx=>by simp only[LG,tm];kernel_rfl
abbrev O1:LX:=⟨⟨[(1,.cl (.ro (.st .event))),M1,ND,Y7,PN],[M3,SP],Zw,0,40⟩,[(.ext 0,⟨[M1,ND,Y7],[M3,SP],Zw,0,40⟩)],[],[1,4,6,7,8],[4,6,7]⟩
def KI(s: (List xx×Unit×Unit×Unit×Int×Unit)×(Ns×Ns×Unit)×List xB×List qQ×List Int×List om×List vB×Unit):O1.R:=
 br (decide (s.1.2.2.2.2.1< (s.1.1.length:Int))) (br (decide (s.1.2.2.2.2.1<60)) (iteP (0<=s.1.2.2.2.2.1) ((s.1.1[s.1.2.2.2.2.1.toNat]?).bind λx21=>(LG (⟨s.2.1.2.1.1,s.2.2.2.1,s.2.2.2.2.1,(⟨s.2.2.2.2.2.1,s.2.1.2.1.2.2.2.2.1⟩:kB),s.2.1.2.1.2.2.2.2.2.1,(⟨s.2.1.2.1.2.2.2.2.2.2.1,s.2.1.2.1.2.2.2.2.2.2.2.1,s.2.1.2.1.2.2.2.2.2.2.2.2.1⟩:vz),s.2.2.2.2.2.2.1⟩:qN) x21).bind λy22=>iteP ((s.2.2.1++([y22.2.1]:List xB)).length*32<=2 ^ 40) (some (.inl ((s.1.1,(),(),(),(IntKind.wrap .i64 (s.1.2.2.2.2.1+1)),()),(s.2.1.1,(y22.1.now,(),(),(),y22.1.master.activated,y22.1.masterUp,y22.1.lease.epoch,y22.1.lease.holder,y22.1.lease.ends,(),()),()),(s.2.2.1++([y22.2.1]:List xB)),y22.1.servers,y22.1.sides,y22.1.master.configs,y22.1.places,()))) none) none) (some (.inr (((),(),(),()),s.2)))) (some (.inr (((),(),(),()),s.2)))
def Sq:=md KI
def SE[dL] :=Ib Tryz.f216 [0] O1 KI [Vo] [] (by kernel_rfl) λs=>by simp only[KI,tm];kernel_rfl
def KV(a0:qN)(a1:List xx):Option (qN×(List xB)×Unit):=
 (FA a0).bind λy1=>(Sq ((a1,(),(),(),0,()),((0,(),(),(),0,0,0,0,0,(),()),(y1.1.now,(),(),(),y1.1.master.activated,y1.1.masterUp,y1.1.lease.epoch,y1.1.lease.holder,y1.1.lease.ends,(),()),()),([]:List xB),y1.1.servers,y1.1.sides,y1.1.master.configs,y1.1.places,())).bind λe23=>some ((⟨e23.2.1.2.1.1,e23.2.2.2.1,e23.2.2.2.2.1,(⟨e23.2.2.2.2.2.1,e23.2.1.2.1.2.2.2.2.1⟩:kB),e23.2.1.2.1.2.2.2.2.2.1,(⟨e23.2.1.2.1.2.2.2.2.2.2.1,e23.2.1.2.1.2.2.2.2.2.2.2.1,e23.2.1.2.1.2.2.2.2.2.2.2.2.1⟩:vz),e23.2.2.2.2.2.2.1⟩:qN),e23.2.2.1,())
def Ut[dL] :=FB 216 Tryz.f216 [.ty (.st .cluster),.ty (.ls (.st .event))] [.st .cluster,.ls (.st .reply)] (λx=>KV x.1 x.2.1) [FX] [SE] (by kernel_rfl) λx=>by simp only[KV,tm];kernel_rfl
def J3[dL](a0:List qO):Option ((List qO)×qN×Unit):=
 (Kr a0).bind λy1=>iteP (y1.1.length=a0.length) ((JX y1.2.1).bind λy2=>(K1 y1.1 14).bind λy3=>iteP (y3.1.length=y1.1.length) ((KV y2.1 y3.2.1).bind λy4=>some (y3.1,y4.1,())) none) none
def TA[dL] :=Q3 185 Tryz.f185 (.st .cur) [] XN (λl _=>J3 l) [Rx,Tq,UB,Ut] [] (by kernel_rfl) λl x=>by simp only[J3,tm,-eq_self];kernel_rfl
abbrev PT:LX:=⟨⟨[RH,Wf,M2],[],YE,1,17⟩,[(.ext 0,⟨[Wf],[],YE,1,17⟩)],[],[0,3,4],[3]⟩
def JL[dL](s:VB×Unit×List qO×List Int×Unit):PT.R:=
 br (decide (s.1.2.2.1<5)) ((Fo s.2.2.1 ([0,0,0,1,2]:List Int)).bind λy4=>iteP (y4.1.length=s.2.2.1.length) (iteP ((s.2.2.2.1++([y4.2.1]:List Int)).length*8<=2 ^ 40) (some (.inl (((),(),(IntKind.wrap .i64 (s.1.2.2.1+1)),()),(()),y4.1,(s.2.2.2.1++([y4.2.1]:List Int)),()))) none) none) (some (.inr (((),()),(()),s.2.2)))
def PH[dL] :=md JL
def TW[dL] :=Ib Tryz.f220 [0] PT JL [Gb] [] (by kernel_rfl) λs=>by simp only[JL,tm,-eq_self];kernel_rfl
def LH[dL](a0:List qO):Option ((List qO)×(List Int)×Unit):=
 (PH (((),(),0,()),(()),a0,([]:List Int),())).bind λe5=>some e5.2.2
def Vp[dL] :=Q3 220 Tryz.f220 (.st .cur) [] Lt (λl _=>LH l) [] [TW] (by kernel_rfl) λl x=>by simp only[LH,tm];kernel_rfl
def NS[dL](a0:List qO):Option ((List qO)×(List Int)×Unit):=
 (LH a0).bind λy1=>iteP (y1.1.length=a0.length) ((Fh y1.1 12).bind λy2=>iteP (y2.1.length=y1.1.length) (br (y2.2.1==0) (iteP (0<=(1:Int)/\(1:Int)<=(y1.2.1.length:Int)/\(y1.2.1.length:Int)<=((y1.2.1.length:Nat):Int)) (iteP ((0+(1:Int).toNat)=0/\((y1.2.1.length:Int).toNat-(1:Int).toNat)<=y1.2.1.length) (some (y2.1,(y1.2.1.take ((y1.2.1.length:Int).toNat-(1:Int).toNat)),())) (iteP ((0+(1:Int).toNat)+((y1.2.1.length:Int).toNat-(1:Int).toNat)<=y1.2.1.length) (some (y2.1,((y1.2.1.drop (0+(1:Int).toNat)).take ((y1.2.1.length:Int).toNat-(1:Int).toNat)),())) none)) none) (br (y2.2.1==1) ((Fo y2.1 ([(-1),3,4]:List Int)).bind λy3=>iteP (y3.1.length=y2.1.length) (iteP (0<=(1:Int)/\(1:Int)< (y1.2.1.length:Int)) ((y1.2.1[(1:Int).toNat]?).bind λ_=>some (y3.1,(y1.2.1.set ((1:Int).toNat) y3.2.1),())) none) none) (some (y2.1,y1.2.1,())))) none) none
def Xp[dL] :=Q3 186 Tryz.f186 (.st .cur) [] Lt (λl _=>NS l) [Vp,FQ,Gb] [] (by kernel_rfl) λl x=>by simp only[NS,tm,-eq_self];kernel_rfl
abbrev RQ:LX:=⟨⟨[RH,Wf,M2],[],YE,1,17⟩,[(.ext 0,⟨[Wf],[],YE,1,17⟩)],[],[0,3,4],[3]⟩
def Nh[dL](s:VB×Unit×List qO×List Int×Unit):RQ.R:=
 br (decide (s.1.2.2.1<5)) ((F8 s.2.2.1 2).bind λy4=>iteP (y4.1.length=s.2.2.1.length) (br y4.2.1 (iteP ((s.2.2.2.1++([s.1.2.2.1]:List Int)).length*8<=2 ^ 40) (some (.inl (((),(),(IntKind.wrap .i64 (s.1.2.2.1+1)),()),(()),y4.1,(s.2.2.2.1++([s.1.2.2.1]:List Int)),()))) none) (some (.inl (((),(),(IntKind.wrap .i64 (s.1.2.2.1+1)),()),(()),y4.1,s.2.2.2)))) none) (some (.inr (((),()),(()),s.2.2)))
def Vz[dL] :=md Nh
def VO[dL] :=Ib Tryz.f253 [0] RQ Nh [Ia] [] (by kernel_rfl) λs=>by simp only[Nh,tm,-eq_self];kernel_rfl
def K0[dL](a0:List qO):Option ((List qO)×(List Int)×Unit):=
 (Vz (((),(),0,()),(()),a0,([]:List Int),())).bind λe6=>some e6.2.2
def UA[dL] :=Q3 253 Tryz.f253 (.st .cur) [] Lt (λl _=>K0 l) [] [VO] (by kernel_rfl) λl x=>by simp only[K0,tm];kernel_rfl
def Jq[dL](a0:List qO)(a1:Int):Option ((List qO)×om×Unit):=
 (Fh a0 5).bind λy1=>iteP (y1.1.length=a0.length) ((K0 y1.1).bind λy2=>iteP (y2.1.length=y1.1.length) ((HE y2.2.1 y1.2.1).bind λy3=>let j9 (p4:List Int):Option ((List qO)×om×Unit):=(F8 y2.1 2).bind λy5=>iteP (y5.1.length=y2.1.length) (br y5.2.1 ((K0 y5.1).bind λy6=>iteP (y6.1.length=y5.1.length) ((FW y6.2.1 p4).bind λy7=>br (decide ((y7.1.length:Int)>0)) (iteP (0<=(0:Int)/\(0:Int)<=(1:Int)/\(1:Int)<=((y7.1.length:Nat):Int)) (iteP ((0+(0:Int).toNat)=0/\((1:Int).toNat-(0:Int).toNat)<=y7.1.length) (some (y6.1,(⟨a1,y1.2.1,p4,(y7.1.take ((1:Int).toNat-(0:Int).toNat))⟩:om),())) (iteP ((0+(0:Int).toNat)+((1:Int).toNat-(0:Int).toNat)<=y7.1.length) (some (y6.1,(⟨a1,y1.2.1,p4,((y7.1.drop (0+(0:Int).toNat)).take ((1:Int).toNat-(0:Int).toNat))⟩:om),())) none)) none) (some (y6.1,(⟨a1,y1.2.1,p4,([]:List Int)⟩:om),()))) none) (some (y5.1,(⟨a1,y1.2.1,p4,([]:List Int)⟩:om),()))) none;br (decide ((y3.1.length:Int)>3)) (j9 ([y1.2.1]:List Int)) (j9 y3.1)) none) none
def Pa[dL] :=Q3 238 Tryz.f238 (.st .cur) Sr YB (λl x=>Jq l x.1) [FQ,UA,Nn,Ia,Ku] [] (by kernel_rfl) λl x=>by simp only[Jq,tm,-eq_self];kernel_rfl
abbrev RN:LX:=⟨⟨[RH,N7,SN,M2],[Wh,Zt],[.st .cur,.st .config],1,34⟩,[(.ext 0,⟨[N7,SN],[Wh,Zt],[.st .cur,.st .config],1,34⟩)],[.b 1 0 (.st .config)],[0,2,3,4],[2,3]⟩
def Nf[dL](s:Yy×(TK×TK×Unit)×List qO×List om×Unit):RN.R:=
 br (decide (s.1.2.2.2.1>0)) ((Jq s.2.2.1 (IntKind.wrap .i64 ((s.2.2.2.1.length:Int)+1))).bind λy17=>iteP (y17.1.length=s.2.2.1.length) ((Hg (⟨s.2.2.2.1,s.2.1.2.1.2.1⟩:kB) y17.2.1).bind λy18=>(F8 y17.1 2).bind λy19=>iteP (y19.1.length=y17.1.length) (br y19.2.1 ((G1 y18.1 (y18.1.configs.length:Int)).bind λy20=>some (.inl (((),(),(),(IntKind.wrap .i64 (s.1.2.2.2.1-1)),()),(s.2.1.1,((),y20.1.activated,()),()),y19.1,y20.1.configs,()))) (some (.inl (((),(),(),(IntKind.wrap .i64 (s.1.2.2.2.1-1)),()),(s.2.1.1,((),y18.1.activated,()),()),y19.1,y18.1.configs,())))) none) none) (some (.inr (((),(),()),s.2)))
def Vx[dL] :=md Nf
def VL[dL] :=Ib Tryz.f221 [0] RN Nf [Pa,NA,Ia,MQ] [] (by kernel_rfl) λs=>by simp only[Nf,tm,-eq_self];kernel_rfl
def NN[dL](a0:List qO):Option ((List qO)×kB×Unit):=
 (Fh a0 5).bind λy1=>iteP (y1.1.length=a0.length) ((Vx (((),(),(),y1.2.1,()),(((),0,()),((),0,()),()),y1.1,([]:List om),())).bind λe23=>some (e23.2.2.1,(⟨e23.2.2.2.1,e23.2.1.2.1.2.1⟩:kB),())) none
def Xl[dL] :=Q3 221 Tryz.f221 (.st .cur) [] ZI (λl _=>NN l) [FQ] [VL] (by kernel_rfl) λl x=>by simp only[NN,tm,-eq_self];kernel_rfl
def Ov[dL](a0:List qO):Option ((List qO)×(List Int)×Unit):=
 (K0 a0).bind λy1=>iteP (y1.1.length=a0.length) ((F8 y1.1 8).bind λy2=>iteP (y2.1.length=y1.1.length) (br y2.2.1 ((Fo y2.1 ([(-1),0,4,5]:List Int)).bind λy3=>iteP (y3.1.length=y2.1.length) (iteP ((y1.2.1++([y3.2.1]:List Int)).length*8<=2 ^ 40) (some (y3.1,(y1.2.1++([y3.2.1]:List Int)),())) none) none) (some (y2.1,y1.2.1,()))) none) none
def Yr[dL] :=Q3 239 Tryz.f239 (.st .cur) [] Lt (λl _=>Ov l) [UA,Ia,Gb] [] (by kernel_rfl) λl x=>by simp only[Ov,tm,-eq_self];kernel_rfl
def Ox[dL](a0:List qO):Option ((List qO)×om×Unit):=
 (Fh a0 4).bind λy1=>iteP (y1.1.length=a0.length) ((Jq y1.1 (IntKind.wrap .i64 (1+y1.2.1))).bind λy2=>iteP (y2.1.length=y1.1.length) ((Fh y2.1 14).bind λy3=>iteP (y3.1.length=y2.1.length) (br (y3.2.1==0) ((Fo y3.1 ([0,20,21]:List Int)).bind λy4=>iteP (y4.1.length=y3.1.length) (some (y4.1,(⟨y4.2.1,y2.2.1.primary,y2.2.1.replicas,y2.2.1.witnesses⟩:om),())) none) (br (y3.2.1==1) ((Fh y3.1 7).bind λy5=>iteP (y5.1.length=y3.1.length) (some (y5.1,(⟨y2.2.1.epoch,(IntKind.wrap .i64 (y5.2.1-1)),y2.2.1.replicas,y2.2.1.witnesses⟩:om),())) none) (br (y3.2.1==2) ((Ov y3.1).bind λy6=>iteP (y6.1.length=y3.1.length) (some (y6.1,(⟨y2.2.1.epoch,y2.2.1.primary,y6.2.1,y2.2.1.witnesses⟩:om),())) none) (br (y3.2.1==3) ((Ov y3.1).bind λy7=>iteP (y7.1.length=y3.1.length) (some (y7.1,(⟨y2.2.1.epoch,y2.2.1.primary,y2.2.1.replicas,y7.2.1⟩:om),())) none) (some (y3.1,y2.2.1,())))))) none) none) none
def V5[dL] :=Q3 222 Tryz.f222 (.st .cur) [] YB (λl _=>Ox l) [FQ,Pa,Gb,Yr] [] (by kernel_rfl) λl x=>by simp only[Ox,tm,-eq_self];kernel_rfl
def NM[dL](a0:List qO):Option ((List qO)×kB×Unit):=
 (NN a0).bind λy1=>iteP (y1.1.length=a0.length) ((Fh y1.1 14).bind λy2=>iteP (y2.1.length=y1.1.length) (br (y2.2.1==0) ((Fo y2.1 ([(-1),0,3,6]:List Int)).bind λy3=>iteP (y3.1.length=y2.1.length) (some (y3.1,(⟨y1.2.1.configs,y3.2.1⟩:kB),())) none) (br (y2.2.1==1) ((Ox y2.1).bind λy4=>iteP (y4.1.length=y2.1.length) (iteP ((y1.2.1.configs++([y4.2.1]:List om)).length*64<=2 ^ 40) (some (y4.1,(⟨(y1.2.1.configs++([y4.2.1]:List om)),y1.2.1.activated⟩:kB),())) none) none) (some (y2.1,y1.2.1,())))) none) none
def Xk[dL] :=Q3 187 Tryz.f187 (.st .cur) [] ZI (λl _=>NM l) [Xl,FQ,Gb,V5] [] (by kernel_rfl) λl x=>by simp only[NM,tm,-eq_self];kernel_rfl
def NP[dL](a0:List qO):Option ((List qO)×vz×Unit):=
 (F8 a0 4).bind λy1=>iteP (y1.1.length=a0.length) (let j17 (p5:List qO) (p6:Int) (p7:Int) (p8:Int):Option ((List qO)×vz×Unit):=(Fh p5 14).bind λy9=>iteP (y9.1.length=p5.length) (br (y9.2.1==0) ((Fo y9.1 ([0,20,21]:List Int)).bind λy10=>iteP (y10.1.length=y9.1.length) (some (y10.1,(⟨y10.2.1,p7,p8⟩:vz),())) none) (br (y9.2.1==1) ((Fo y9.1 ([(-1),4,5]:List Int)).bind λy11=>iteP (y11.1.length=y9.1.length) (some (y11.1,(⟨p6,y11.2.1,p8⟩:vz),())) none) (br (y9.2.1==2) ((Fo y9.1 ([(-1),0,1049,1050]:List Int)).bind λy12=>iteP (y12.1.length=y9.1.length) (some (y12.1,(⟨p6,p7,y12.2.1⟩:vz),())) none) (some (y9.1,(⟨p6,p7,p8⟩:vz),()))))) none;br (!y1.2.1) ((Fh y1.1 3).bind λy2=>iteP (y2.1.length=y1.1.length) ((Fh y2.1 3).bind λy3=>iteP (y3.1.length=y2.1.length) ((Fh y3.1 20).bind λy4=>iteP (y4.1.length=y3.1.length) (j17 y4.1 (IntKind.wrap .i64 (1+y2.2.1)) y3.2.1 (IntKind.wrap .i64 (1+y4.2.1))) none) none) none) (j17 y1.1 0 0 0)) none
def Xm[dL] :=Q3 188 Tryz.f188 (.st .cur) [] [.st .lease] (λl _=>NP l) [Ia,FQ,Gb] [] (by kernel_rfl) λl x=>by simp only[NP,tm,-eq_self];kernel_rfl
def Px[dL](a0:List qO):Option ((List qO)×(List vB)×Unit):=
 (Kr a0).bind λy1=>iteP (y1.1.length=a0.length) ((Fh y1.1 14).bind λy2=>iteP (y2.1.length=y1.1.length) (br (y2.2.1==0) (iteP (0<=(1:Int)/\(1:Int)<=(y1.2.1.length:Int)/\(y1.2.1.length:Int)<=((y1.2.1.length:Nat):Int)) (iteP ((0+(1:Int).toNat)=0/\((y1.2.1.length:Int).toNat-(1:Int).toNat)<=y1.2.1.length) (some (y2.1,(y1.2.1.take ((y1.2.1.length:Int).toNat-(1:Int).toNat)),())) (iteP ((0+(1:Int).toNat)+((y1.2.1.length:Int).toNat-(1:Int).toNat)<=y1.2.1.length) (some (y2.1,((y1.2.1.drop (0+(1:Int).toNat)).take ((y1.2.1.length:Int).toNat-(1:Int).toNat)),())) none)) none) (br (y2.2.1==1) ((Fo y2.1 ([(-1),9,10]:List Int)).bind λy3=>iteP (y3.1.length=y2.1.length) (iteP (0<=(0:Int)/\(0:Int)< (y1.2.1.length:Int)) ((y1.2.1[(0:Int).toNat]?).bind λx4=>some (y3.1,(y1.2.1.set ((0:Int).toNat) (⟨y3.2.1,x4.capacity,x4.load⟩:vB)),())) none) none) (br (y2.2.1==2) ((Fo y2.1 ([(-1),99,100]:List Int)).bind λy6=>iteP (y6.1.length=y2.1.length) (iteP (0<=(1:Int)/\(1:Int)< (y1.2.1.length:Int)) ((y1.2.1[(1:Int).toNat]?).bind λx7=>some (y6.1,(y1.2.1.set ((1:Int).toNat) (⟨x7.rack,x7.capacity,y6.2.1⟩:vB)),())) none) none) (some (y2.1,y1.2.1,()))))) none) none
def Yv[dL] :=Q3 189 Tryz.f189 (.st .cur) [] [.ls (.st .place)] (λl _=>Px l) [Rx,FQ,Gb] [] (by kernel_rfl) λl x=>by simp only[Px,tm,-eq_self];kernel_rfl
abbrev SW:LX:=⟨⟨[RH,Wg,M2,Nr],[],YF,1,27⟩,[(.ext 0,⟨[Wg],[],YF,1,27⟩)],[],[0,3,4,5],[3]⟩
def Mz[dL](s: (Unit×Unit×Int×Int×Unit)×Unit×List qO×List sf×Unit):SW.R:=
 br (decide (s.1.2.2.2.1>0)) ((F8 s.2.2.1 3).bind λy6=>iteP (y6.1.length=s.2.2.1.length) (br y6.2.1 ((Mj y6.1).bind λy9=>iteP (y9.1.length=y6.1.length) (iteP ((s.2.2.2.1++([(⟨(IntKind.wrap .i64 (s.1.2.2.1+1)),y9.2.1⟩:sf)]:List sf)).length*56<=2 ^ 40) (some (.inl (((),(),(IntKind.wrap .i64 (s.1.2.2.1+1)),(IntKind.wrap .i64 (s.1.2.2.2.1-1)),()),(()),y9.1,(s.2.2.2.1++([(⟨(IntKind.wrap .i64 (s.1.2.2.1+1)),y9.2.1⟩:sf)]:List sf)),()))) none) none) ((Mj y6.1).bind λy10=>iteP (y10.1.length=y6.1.length) (iteP ((s.2.2.2.1++([(⟨s.1.2.2.1,y10.2.1⟩:sf)]:List sf)).length*56<=2 ^ 40) (some (.inl (((),(),s.1.2.2.1,(IntKind.wrap .i64 (s.1.2.2.2.1-1)),()),(()),y10.1,(s.2.2.2.1++([(⟨s.1.2.2.1,y10.2.1⟩:sf)]:List sf)),()))) none) none)) none) (some (.inr (((),()),(()),s.2.2)))
def SM[dL] :=md Mz
def WV[dL] :=Ib Tryz.f168 [0] SW Mz [Ia,TB] [] (by kernel_rfl) λs=>by simp only[Mz,tm,-eq_self];kernel_rfl
def Ow[dL](a0:List qO):Option ((List qO)×(List sf)×Unit):=
 (Fh a0 7).bind λy1=>iteP (y1.1.length=a0.length) ((SM (((),(),1,y1.2.1,()),(()),y1.1,([]:List sf),())).bind λe14=>some e14.2.2) none
def V4[dL] :=Q3 168 Tryz.f168 (.st .cur) [] VD (λl _=>Ow l) [FQ] [WV] (by kernel_rfl) λl x=>by simp only[Ow,tm,-eq_self];kernel_rfl
abbrev RP:LX:=⟨⟨[Mh,K7,Nr],[],[],0,25⟩,[(.ext 0,⟨[Mh,Nr],[],[],0,25⟩)],[],[0,1,5],[0,5]⟩
def Ng(s: (List sf×Int×Int×Unit)×Unit×Unit):RP.R:=
 br (decide (s.1.2.2.1< (s.1.1.length:Int))) (iteP (0<=s.1.2.2.1) ((s.1.1[s.1.2.2.1.toNat]?).bind λx4=>br (decide (x4.epoch<=s.1.2.1)) (some (.inl ((s.1.1,s.1.2.1,(IntKind.wrap .i64 (s.1.2.2.1+1)),()),(()),(())))) (some (.inr ((s.1.1,s.1.2.2),(()),(()))))) none) (some (.inr ((s.1.1,s.1.2.2),(()),(()))))
def Vy:=md Ng
def VN[dL] :=Ib Tryz.f240 [0] RP Ng [] [] (by kernel_rfl) λs=>by simp only[Ng,tm];kernel_rfl
def NR(a0:List sf)(a1:Int):Option ((List sf)×Unit):=
 (Vy ((a0,a1,0,()),(()),(()))).bind λe5=>iteP (0<=(0:Int)/\(0:Int)<=e5.1.2.1/\e5.1.2.1<=(e5.1.1.length:Int)) ((Gx ((e5.1.1.drop (0:Int).toNat).take (e5.1.2.1.toNat-(0:Int).toNat))).bind λy6=>some (y6.1,())) none
def Xo[dL] :=FB 240 Tryz.f240 XA VD (λx=>NR x.1 x.2.1) [Jc] [VN] (by kernel_rfl) λx=>by simp only[NR,tm];kernel_rfl
def KY[dL](a0:List qO):Option ((List qO)×qQ×Int×Unit):=
 (Fh a0 2).bind λy1=>iteP (y1.1.length=a0.length) ((JB (IntKind.wrap .i64 (1+y1.2.1))).bind λy2=>(Fh y1.1 3).bind λy3=>iteP (y3.1.length=y1.1.length) ((Jq y3.1 (IntKind.wrap .i64 (1+y3.2.1))).bind λy4=>iteP (y4.1.length=y3.1.length) ((Ge y4.2.1).bind λy5=>(Fh y4.1 (y5.1.length:Int)).bind λy6=>iteP (y6.1.length=y4.1.length) (iteP (0<=y6.2.1/\y6.2.1< (y5.1.length:Int)) ((y5.1[y6.2.1.toNat]?).bind λx7=>(F8 y6.1 5).bind λy8=>iteP (y8.1.length=y6.1.length) (br (!y8.2.1) ((Ow y8.1).bind λy9=>iteP (y9.1.length=y8.1.length) ((NR y9.2.1 y4.2.1.epoch).bind λy10=>(Hf y2.1 y4.2.1 x7 y10.1).bind λy11=>(F8 y9.1 4).bind λy44=>iteP (y44.1.length=y9.1.length) (let j62 (p45:Bool):Option ((List qO)×qQ×Int×Unit):=(F8 y44.1 4).bind λy46=>iteP (y46.1.length=y44.1.length) (br y46.2.1 ((Fh y46.1 3).bind λy47=>iteP (y47.1.length=y46.1.length) ((Hn (⟨p45,y11.1.intact,y11.1.version,y11.1.epoch,y11.1.config,y11.1.first,y11.1.log,y11.1.commit,y11.1.learned⟩:qQ) (IntKind.wrap .i64 (4+y47.2.1))).bind λy48=>some (y47.1,y48.1,x7,())) none) (some (y46.1,(⟨p45,y11.1.intact,y11.1.version,y11.1.epoch,y11.1.config,y11.1.first,y11.1.log,y11.1.commit,y11.1.learned⟩:qQ),x7,()))) none;br y44.2.1 (j62 false) (j62 y11.1.up)) none) none) ((F8 y8.1 4).bind λy63=>iteP (y63.1.length=y8.1.length) (let j81 (p64:Bool):Option ((List qO)×qQ×Int×Unit):=(F8 y63.1 4).bind λy65=>iteP (y65.1.length=y63.1.length) (br y65.2.1 ((Fh y65.1 3).bind λy66=>iteP (y66.1.length=y65.1.length) ((Hn (⟨p64,y2.1.intact,y2.1.version,y2.1.epoch,y2.1.config,y2.1.first,y2.1.log,y2.1.commit,y2.1.learned⟩:qQ) (IntKind.wrap .i64 (4+y66.2.1))).bind λy67=>some (y66.1,y67.1,x7,())) none) (some (y65.1,(⟨p64,y2.1.intact,y2.1.version,y2.1.epoch,y2.1.config,y2.1.first,y2.1.log,y2.1.commit,y2.1.learned⟩:qQ),x7,()))) none;br y63.2.1 (j81 false) (j81 y2.1.up)) none)) none) none) none) none) none) none
def Ux[dL] :=Q3 223 Tryz.f223 (.st .cur) [] [.st .server,.i .i64] (λl _=>KY l) [FQ,Qu,Pa,IC,Ia,V4,Xo,Ny,PD] [] (by kernel_rfl) λl x=>by simp only[KY,tm,-eq_self];kernel_rfl
def Pv[dL](a0:List qO):Option ((List qO)×Op×Unit):=
 (Mj a0).bind λy1=>iteP (y1.1.length=a0.length) ((Fh y1.1 14).bind λy2=>iteP (y2.1.length=y1.1.length) (br (y2.2.1==0) ((Fo y2.1 ([(-1),2,3]:List Int)).bind λy3=>iteP (y3.1.length=y2.1.length) (some (y3.1,(⟨y3.2.1,y1.2.1.seq,y1.2.1.kind,y1.2.1.object,y1.2.1.old,y1.2.1.value⟩:Op),())) none) (br (y2.2.1==1) ((Fo y2.1 ([0,99,100]:List Int)).bind λy4=>iteP (y4.1.length=y2.1.length) (some (y4.1,(⟨y1.2.1.client,y4.2.1,y1.2.1.kind,y1.2.1.object,y1.2.1.old,y1.2.1.value⟩:Op),())) none) (br (y2.2.1==2) ((Fh y2.1 4).bind λy5=>iteP (y5.1.length=y2.1.length) (some (y5.1,(⟨y1.2.1.client,y1.2.1.seq,y5.2.1,y1.2.1.object,y1.2.1.old,y1.2.1.value⟩:Op),())) none) (br (y2.2.1==3) ((Fo y2.1 ([(-1),3]:List Int)).bind λy6=>iteP (y6.1.length=y2.1.length) (some (y6.1,(⟨y1.2.1.client,y1.2.1.seq,y1.2.1.kind,y6.2.1,y1.2.1.old,y1.2.1.value⟩:Op),())) none) (br (y2.2.1==4) ((Fo y2.1 ([(-1),9,10]:List Int)).bind λy7=>iteP (y7.1.length=y2.1.length) (some (y7.1,(⟨y1.2.1.client,y1.2.1.seq,y1.2.1.kind,y1.2.1.object,y1.2.1.old,y7.2.1⟩:Op),())) none) (br (y2.2.1==5) ((Fo y2.1 ([(-1),0,9,10]:List Int)).bind λy8=>iteP (y8.1.length=y2.1.length) (some (y8.1,(⟨y1.2.1.client,y1.2.1.seq,y1.2.1.kind,y1.2.1.object,y8.2.1,y1.2.1.value⟩:Op),())) none) (some (y2.1,y1.2.1,())))))))) none) none
def Yt[dL] :=Q3 85 Tryz.f85 (.st .cur) [] [.st .op] (λl _=>Pv l) [TB,FQ,Gb] [] (by kernel_rfl) λl x=>by simp only[Pv,tm,-eq_self];kernel_rfl
abbrev SU:LX:=⟨⟨[RH,Wg],[],YF,1,33⟩,[(.ext 1,⟨[Wg],[],YF,1,33⟩)],[],[0,3],[3]⟩
def Lx[dL](s:TL×Unit×List qO×List sf×Unit):SU.R:=
 br (decide ((s.2.2.2.1.length:Int)<17)) ((Mj s.2.2.1).bind λy7=>iteP (y7.1.length=s.2.2.1.length) (iteP ((s.2.2.2.1++([(⟨20,y7.2.1⟩:sf)]:List sf)).length*56<=2 ^ 40) (some (.inl (((),(),()),(()),y7.1,(s.2.2.2.1++([(⟨20,y7.2.1⟩:sf)]:List sf)),()))) none) none) (some (.inr (((),()),(()),s.2.2)))
def SK[dL] :=md Lx
def WU[dL] :=Ib Tryz.f83 [0] SU Lx [TB] [] (by kernel_rfl) λs=>by simp only[Lx,tm,-eq_self];kernel_rfl
def Pw[dL](a0:List qO):Option ((List qO)×(List sf)×Unit):=
 (Ow a0).bind λy1=>iteP (y1.1.length=a0.length) ((Fh y1.1 14).bind λy2=>iteP (y2.1.length=y1.1.length) (br (y2.2.1==0) ((Fo y2.1 ([0,1,20,21]:List Int)).bind λy3=>iteP (y3.1.length=y2.1.length) ((Pv y3.1).bind λy4=>iteP (y4.1.length=y3.1.length) (iteP ((y1.2.1++([(⟨y3.2.1,y4.2.1⟩:sf)]:List sf)).length*56<=2 ^ 40) (some (y4.1,(y1.2.1++([(⟨y3.2.1,y4.2.1⟩:sf)]:List sf)),())) none) none) none) (br (y2.2.1==1) ((SK (((),(),()),(()),y2.1,y1.2.1,())).bind λe8=>some e8.2.2) (some (y2.1,y1.2.1,())))) none) none
def Yu[dL] :=Q3 83 Tryz.f83 (.st .cur) [] VD (λl _=>Pw l) [V4,FQ,Gb,Yt] [WU] (by kernel_rfl) λl x=>by simp only[Pw,tm,-eq_self];kernel_rfl
def NQ[dL](a0:List qO):Option ((List qO)×qQ×Int×Unit):=
 (KY a0).bind λy1=>iteP (y1.1.length=a0.length) ((Fh y1.1 16).bind λy2=>iteP (y2.1.length=y1.1.length) (let j21 (p10:List qO) (p11:Int) (p12:Int) (p13:Int) (p14:Int) (p15:List Int) (p16:List Int) (p17:Int) (p18:List sf) (p19:Int) (p20:Int):Option ((List qO)×qQ×Int×Unit):=some (p10,(⟨y1.2.1.up,y1.2.1.intact,p11,p12,(⟨p13,p14,p15,p16⟩:om),p17,p18,p19,y1.2.1.learned⟩:qQ),p20,());br (y2.2.1==0) ((Fo y2.1 ([0,1,3]:List Int)).bind λy3=>iteP (y3.1.length=y2.1.length) (j21 y3.1 y3.2.1 y1.2.1.epoch y1.2.1.config.epoch y1.2.1.config.primary y1.2.1.config.replicas y1.2.1.config.witnesses y1.2.1.first y1.2.1.log y1.2.1.commit y1.2.2.1) none) (br (y2.2.1==1) ((Fo y2.1 ([(-1),0,20,21]:List Int)).bind λy4=>iteP (y4.1.length=y2.1.length) (j21 y4.1 y1.2.1.version y4.2.1 y1.2.1.config.epoch y1.2.1.config.primary y1.2.1.config.replicas y1.2.1.config.witnesses y1.2.1.first y1.2.1.log y1.2.1.commit y1.2.2.1) none) (br (y2.2.1==2) ((Ox y2.1).bind λy5=>iteP (y5.1.length=y2.1.length) (j21 y5.1 y1.2.1.version y1.2.1.epoch y5.2.1.epoch y5.2.1.primary y5.2.1.replicas y5.2.1.witnesses y1.2.1.first y1.2.1.log y1.2.1.commit y1.2.2.1) none) (br (y2.2.1==3) ((Fo y2.1 ([(-1),0,2,17]:List Int)).bind λy6=>iteP (y6.1.length=y2.1.length) (j21 y6.1 y1.2.1.version y1.2.1.epoch y1.2.1.config.epoch y1.2.1.config.primary y1.2.1.config.replicas y1.2.1.config.witnesses y1.2.1.first y1.2.1.log y6.2.1 y1.2.2.1) none) (br (y2.2.1==4) ((Fo y2.1 ([(-1),0,2,9223372036854775807]:List Int)).bind λy7=>iteP (y7.1.length=y2.1.length) (j21 y7.1 y1.2.1.version y1.2.1.epoch y1.2.1.config.epoch y1.2.1.config.primary y1.2.1.config.replicas y1.2.1.config.witnesses y7.2.1 y1.2.1.log y1.2.1.commit y1.2.2.1) none) (br (y2.2.1==5) ((Fh y2.1 7).bind λy8=>iteP (y8.1.length=y2.1.length) (j21 y8.1 y1.2.1.version y1.2.1.epoch y1.2.1.config.epoch y1.2.1.config.primary y1.2.1.config.replicas y1.2.1.config.witnesses y1.2.1.first y1.2.1.log y1.2.1.commit (IntKind.wrap .i64 (y8.2.1-1))) none) (br (y2.2.1==6) ((Pw y2.1).bind λy9=>iteP (y9.1.length=y2.1.length) (j21 y9.1 y1.2.1.version y1.2.1.epoch y1.2.1.config.epoch y1.2.1.config.primary y1.2.1.config.replicas y1.2.1.config.witnesses y1.2.1.first y9.2.1 y1.2.1.commit y1.2.2.1) none) (j21 y2.1 y1.2.1.version y1.2.1.epoch y1.2.1.config.epoch y1.2.1.config.primary y1.2.1.config.replicas y1.2.1.config.witnesses y1.2.1.first y1.2.1.log y1.2.1.commit y1.2.2.1)))))))) none) none
def Xn[dL] :=Q3 190 Tryz.f190 (.st .cur) [] [.st .server,.i .i64] (λl _=>NQ l) [Ux,FQ,Gb,V5,Yu] [] (by kernel_rfl) λl x=>by simp only[NQ,tm,-eq_self];kernel_rfl
def MH[dL](a0:List qO):Option ((List qO)×qN×Unit):=
 (J3 a0).bind λy1=>iteP (y1.1.length=a0.length) ((Fh y1.1 20).bind λy2=>iteP (y2.1.length=y1.1.length) (br (y2.2.1==0) ((Fo y2.1 ([(-1),998,999,1000]:List Int)).bind λy3=>iteP (y3.1.length=y2.1.length) (some (y3.1,(⟨y3.2.1,y1.2.1.servers,y1.2.1.sides,y1.2.1.master,y1.2.1.masterUp,y1.2.1.lease,y1.2.1.places⟩:qN),())) none) (br (y2.2.1==1) ((NS y2.1).bind λy4=>iteP (y4.1.length=y2.1.length) (some (y4.1,(⟨y1.2.1.now,y1.2.1.servers,y4.2.1,y1.2.1.master,y1.2.1.masterUp,y1.2.1.lease,y1.2.1.places⟩:qN),())) none) (br (y2.2.1==2) ((NM y2.1).bind λy5=>iteP (y5.1.length=y2.1.length) (some (y5.1,(⟨y1.2.1.now,y1.2.1.servers,y1.2.1.sides,y5.2.1,y1.2.1.masterUp,y1.2.1.lease,y1.2.1.places⟩:qN),())) none) (br (y2.2.1==3) ((Fo y2.1 ([(-1),3,4]:List Int)).bind λy6=>iteP (y6.1.length=y2.1.length) (some (y6.1,(⟨y1.2.1.now,y1.2.1.servers,y1.2.1.sides,y1.2.1.master,y6.2.1,y1.2.1.lease,y1.2.1.places⟩:qN),())) none) (br (y2.2.1==4) ((NP y2.1).bind λy7=>iteP (y7.1.length=y2.1.length) (some (y7.1,(⟨y1.2.1.now,y1.2.1.servers,y1.2.1.sides,y1.2.1.master,y1.2.1.masterUp,y7.2.1,y1.2.1.places⟩:qN),())) none) (br (y2.2.1==5) ((Px y2.1).bind λy8=>iteP (y8.1.length=y2.1.length) (some (y8.1,(⟨y1.2.1.now,y1.2.1.servers,y1.2.1.sides,y1.2.1.master,y1.2.1.masterUp,y1.2.1.lease,y8.2.1⟩:qN),())) none) (br (y2.2.1==6) ((NQ y2.1).bind λy9=>iteP (y9.1.length=y2.1.length) ((Fh y9.1 5).bind λy10=>iteP (y10.1.length=y9.1.length) (iteP (0<=y10.2.1/\y10.2.1< (y1.2.1.servers.length:Int)) ((y1.2.1.servers[y10.2.1.toNat]?).bind λ_=>some (y10.1,(⟨y1.2.1.now,(y1.2.1.servers.set y10.2.1.toNat y9.2.1),y1.2.1.sides,y1.2.1.master,y1.2.1.masterUp,y1.2.1.lease,y1.2.1.places⟩:qN),())) none) none) none) (some (y2.1,y1.2.1,()))))))))) none) none
def Uy[dL] :=Q3 117 Tryz.f117 (.st .cur) [] XN (λl _=>MH l) [TA,FQ,Gb,Xp,Xk,Xm,Yv,Xn] [] (by kernel_rfl) λl x=>by simp only[MH,tm,-eq_self];kernel_rfl
abbrev M7:LX:=⟨⟨[J9,QB,M2],[K8],Ir,0,29⟩,[(.ext 0,⟨[QB],[],Ir,0,29⟩)],[],[1,3,4],[3]⟩
def IP(s:VB×(N8×Unit)×List Int×Unit):M7.R:=
 br (decide (s.1.2.2.1< (s.2.1.1.2.1.length:Int))) ((Fg (⟨s.2.1.1.1,s.2.1.1.2.1,s.2.1.1.2.2.1,(⟨s.2.1.1.2.2.2.1,s.2.1.1.2.2.2.2.1⟩:kB),s.2.1.1.2.2.2.2.2.1,(⟨s.2.1.1.2.2.2.2.2.2.1,s.2.1.1.2.2.2.2.2.2.2.1,s.2.1.1.2.2.2.2.2.2.2.2.1⟩:vz),s.2.1.1.2.2.2.2.2.2.2.2.2.1⟩:qN)).bind λy13=>br y13.1 (iteP (0<=s.1.2.2.1) ((s.2.1.1.2.1[s.1.2.2.1.toNat]?).bind λx14=>(FT x14 s.1.2.2.1).bind λy15=>br y15.1 (iteP ((s.2.2.1++([s.1.2.2.1]:List Int)).length*8<=2 ^ 40) (some (.inl (((),(),(IntKind.wrap .i64 (s.1.2.2.1+1)),()),s.2.1,(s.2.2.1++([s.1.2.2.1]:List Int)),()))) none) (some (.inl (((),(),(IntKind.wrap .i64 (s.1.2.2.1+1)),()),s.2)))) none) (some (.inr (((),()),(()),s.2.2)))) (some (.inr (((),()),(()),s.2.2)))
def Qc:=md IP
def Qk[dL] :=Ib Tryz.f176 [0] M7 IP [Fk,HS] [] (by kernel_rfl) λs=>by simp only[IP,tm];kernel_rfl
def Iy(a0:qN):Option ((List Int)×Unit):=
 (Qc (((),(),0,()),((a0.now,a0.servers,a0.sides,a0.master.configs,a0.master.activated,a0.masterUp,a0.lease.epoch,a0.lease.holder,a0.lease.ends,a0.places,()),()),([]:List Int),())).bind λe17=>some e17.2.2
def Rp[dL] :=FB 176 Tryz.f176 TH Lt (λx=>Iy x.1) [] [Qk] (by kernel_rfl) λx=>by simp only[Iy,tm];kernel_rfl
def MI[dL](a0:Hd):Option ((List qO)×qN×Int×Unit):=
 (Q5 a0).bind λy1=>(MH y1.1).bind λy2=>iteP (y2.1.length=y1.1.length) ((Iy y2.2.1).bind λy3=>(Fh y2.1 7).bind λy4=>iteP (y4.1.length=y2.1.length) (br (decide ((y3.1.length:Int)>0)) ((F8 y4.1 5).bind λy5=>iteP (y5.1.length=y4.1.length) (br (!y5.2.1) ((Fh y5.1 (y3.1.length:Int)).bind λy6=>iteP (y6.1.length=y5.1.length) (iteP (0<=y6.2.1/\y6.2.1< (y3.1.length:Int)) ((y3.1[y6.2.1.toNat]?).bind λx7=>some (y6.1,y2.2.1,x7,())) none) none) (some (y5.1,y2.2.1,(IntKind.wrap .i64 (y4.2.1-1)),()))) none) (some (y4.1,y2.2.1,(IntKind.wrap .i64 (y4.2.1-1)),()))) none) none
def WH[dL] :=coQ 104 Tryz.f104 (.st .cur) [.ty (.h)] N9 (λx=>MI x.1) [V3,Uy,Rp,FQ,Ia] [] (by kernel_rfl) λx=>by simp only[MI,tm,-eq_self];kernel_rfl
def H5[dL](a0:Hd):Option (qN×Int×Int×Unit):=
 (MI a0).bind λy1=>(Fh y1.1 5).bind λy2=>iteP (y2.1.length=y1.1.length) (some (y1.2.1,y1.2.2.1,(IntKind.wrap .i64 (y2.2.1-1)),())) none
def QL[dL] :=FB 34 Tryz.f34 [.ty (.h)] [.st .cluster,.i .i64,.i .i64] (λx=>H5 x.1) [WH,FQ] [] (by kernel_rfl) λx=>by simp only[H5,tm,-eq_self];kernel_rfl
def Fj(a0:Int)(a1:Int)(a2:Int):Option (Bool×Unit):=
 br (decide (a1<=a0)) (some ((decide (a0<=a2)),())) (some (false,()))
def Gf[dL] :=FB 89 Tryz.f89 Xw [.b] (λx=>Fj x.1 x.2.1 x.2.2.1) [] [] (by kernel_rfl) λx=>by simp only[Fj,tm];kernel_rfl
def KJ(a0:Int):Option (Bool×Unit):=
 (Fj a0 0 3).bind λy1=>some ((!y1.1),())
def R9[dL] :=FB 207 Tryz.f207 Sr [.b] (λx=>KJ x.1) [Gf] [] (by kernel_rfl) λx=>by simp only[KJ,tm];kernel_rfl
abbrev HC:LX:=⟨⟨[NI,(1,.cl (.fc 207)),Pd,PN],[],[],0,19⟩,[(.ret,⟨[M2],[],[],0,19⟩),(.ext 0,⟨[Qz],[],[],0,19⟩)],[],[0,1,7,8],[4]⟩
def Fy(s:Zh×Unit×Unit):HC.R:=
 br (decide (s.1.2.2.2.1<s.1.2.2.1)) (iteP (0<=s.1.2.2.2.1) ((s.1.1[s.1.2.2.2.1.toNat]?).bind λx4=>(KJ x4).bind λy5=>br y5.1 (some (.inr (.inl (s.1.2.2.2,(()),(()))))) (some (.inl ((s.1.1,(),s.1.2.2.1,(IntKind.wrap .i64 (s.1.2.2.2.1+1)),()),(()),(()))))) none) (some (.inr (.inr (((),()),(()),(())))))
def Gw:=md Fy
def Kf[dL] :=Ib Tryz.f171 [0] HC Fy [R9] [] (by kernel_rfl) λs=>by simp only[Fy,tm];kernel_rfl
def Ga(a0:List Int):Option (Int×Unit):=
 (Gw ((a0,(),(a0.length:Int),0,()),(()),(()))).bind λe6=>Sum.elim (λe6_0=>some e6_0.1) (λ_=>some ((-1),())) e6
def K4[dL] :=FB 171 Tryz.f171 Y0 Kz (λx=>Ga x.1) [] [Kf] (by kernel_rfl) λx=>by simp only[Ga,tm];kernel_rfl
def F0(a0:List Int):Option (Bool×Unit):=
 (Ga a0).bind λy1=>some ((decide (y1.1≥0)),())
def J5[dL] :=FB 98 Tryz.f98 Y0 [.b] (λx=>F0 x.1) [K4] [] (by kernel_rfl) λx=>by simp only[F0,tm];kernel_rfl
def Ki(a0:List Int):Option (Bool×Unit):=
 br ((a0.length:Int)==5) ((F0 a0).bind λy1=>some ((!y1.1),())) (some (false,()))
def Vf[dL] :=FB 154 Tryz.f154 VA [.b] (λx=>Ki x.1) [J5] [] (by kernel_rfl) λx=>by simp only[Ki,tm];kernel_rfl
abbrev Oa:LX:=⟨⟨[NI,(5,.cl (.ro (.i .i64))),Mg,Pd],[],[],0,29⟩,[(.ret,⟨[PO],[],[],0,29⟩),(.ext 0,⟨[OD],[],[],0,29⟩)],[],[0,5,6,7],[2]⟩
def Gi(s:Zi×Unit×Unit):Oa.R:=
 br (decide (s.1.2.2.2.1<s.1.2.2.1)) (iteP (0<=s.1.2.2.2.1) ((s.1.2.1[s.1.2.2.2.1.toNat]?).bind λx5=>(Fj x5 0 4).bind λy6=>br (!y6.1) (some (.inr (.inl ((false,()),(()),(()))))) (br (decide (s.1.2.2.2.1>0)) (iteP (0<=(IntKind.wrap .i64 (s.1.2.2.2.1-1))) ((s.1.1[(IntKind.wrap .i64 (s.1.2.2.2.1-1)).toNat]?).bind λx7=>br (decide (x5<=x7)) (some (.inr (.inl ((false,()),(()),(()))))) (some (.inl ((s.1.1,s.1.2.1,s.1.2.2.1,(IntKind.wrap .i64 (s.1.2.2.2.1+1)),()),(()),(()))))) none) (some (.inl ((s.1.1,s.1.2.1,s.1.2.2.1,(IntKind.wrap .i64 (s.1.2.2.2.1+1)),()),(()),(())))))) none) (some (.inr (.inr (((),()),(()),(())))))
def J7:=md Gi
def RU[dL] :=Ib Tryz.f193 [0] Oa Gi [Gf] [] (by kernel_rfl) λs=>by simp only[Gi,tm];kernel_rfl
def GO(a0:List Int):Option (Bool×Unit):=
 (J7 ((a0,a0,(a0.length:Int),0,()),(()),(()))).bind λe8=>Sum.elim (λe8_0=>some e8_0.1) (λ_=>some (true,())) e8
def Ta[dL] :=FB 193 Tryz.f193 VA [.b] (λx=>GO x.1) [] [RU] (by kernel_rfl) λx=>by simp only[GO,tm];kernel_rfl
abbrev Oi:LX:=⟨⟨[NI,K7,Pd,PN],[],[],0,19⟩,[(.ret,⟨[M2],[],[],0,19⟩),(.ext 0,⟨[Qz],[],[],0,19⟩)],[],[0,1,7,8],[4]⟩
def HI(s: (List Int×Int×Int×Int×Unit)×Unit×Unit):Oi.R:=
 br (decide (s.1.2.2.2.1<s.1.2.2.1)) (iteP (0<=s.1.2.2.2.1) ((s.1.1[s.1.2.2.2.1.toNat]?).bind λx5=>br (s.1.2.1==x5) (some (.inr (.inl (s.1.2.2.2,(()),(()))))) (some (.inl ((s.1.1,s.1.2.1,s.1.2.2.1,(IntKind.wrap .i64 (s.1.2.2.2.1+1)),()),(()),(()))))) none) (some (.inr (.inr (((),()),(()),(())))))
def LS:=md HI
def R5[dL] :=Ib Tryz.f242 [0] Oi HI [] [] (by kernel_rfl) λs=>by simp only[HI,tm];kernel_rfl
def Lo(a0:List Int)(a1:Int):Option (Int×Unit):=
 (LS ((a0,a1,(a0.length:Int),0,()),(()),(()))).bind λe6=>Sum.elim (λe6_0=>some e6_0.1) (λ_=>some ((-1),())) e6
def TD[dL] :=FB 242 Tryz.f242 UF Kz (λx=>Lo x.1 x.2.1) [] [R5] (by kernel_rfl) λx=>by simp only[Lo,tm];kernel_rfl
def Jm(a0:List Int)(a1:Int):Option (Bool×Unit):=
 (Lo a0 a1).bind λy1=>some ((decide (y1.1≥0)),())
def QR[dL] :=FB 224 Tryz.f224 UF [.b] (λx=>Jm x.1 x.2.1) [TD] [] (by kernel_rfl) λx=>by simp only[Jm,tm];kernel_rfl
def Hk(a0:List Int)(a1:Int):Option (Bool×Unit):=
 (Jm a0 a1).bind λy1=>some (y1.1,())
def Md[dL] :=FB 191 Tryz.f191 UF [.b] (λx=>Hk x.1 x.2.1) [QR] [] (by kernel_rfl) λx=>by simp only[Hk,tm];kernel_rfl
def Hp(a0:List Int):Option ((List Int)×Unit):=iteP (a0.length*8<=2 ^ 40) (some (a0,())) none
def PE[dL] :=coC 131 Tryz.f131 (.i .i64) 8 Hp (by kernel_rfl) (λ_=>rfl) λ_=>by kernel_rfl
def O7(a0:Int):Option (Int×Unit):=
 br (decide (a0≥4294967296)) (none) (br (decide (a0≥65536)) (none) (br (decide (a0≥256)) (none) (iteP (0<=(IntKind.wrap .u8 a0)) ((sb0[(IntKind.wrap .u8 a0).toNat]?).bind λx1=>some ((IntKind.wrap .i64 (0+(IntKind.wrap .i64 (x1.toNat:Int)))),())) none)))
def Ve[dL] :=FB 265 Tryz.f265 [.ty (.i .u64)] Kz (λx=>O7 x.1) [] [] (by kernel_rfl) λx=>by simp only[O7,tm];kernel_rfl
def Ps(a0:Int):Option (Int×Unit):=
 (O7 a0).bind λy1=>some (y1.1,())
def Xh[dL] :=FB 246 Tryz.f246 [.ty (.i .u64)] Kz (λx=>Ps x.1) [Ve] [] (by kernel_rfl) λx=>by simp only[Ps,tm];kernel_rfl
def I3(a0:Int):Option (Bool×Unit):=
 some ((!(a0==a0)),())
def R8[dL] :=FB 290 Tryz.f290 Sr [.b] (λx=>I3 x.1) [] [] (by kernel_rfl) λx=>by simp only[I3,tm];kernel_rfl
def JM(a0:Int)(a1:Int):Option (Bool×Unit):=
 (I3 a0).bind λy1=>br y1.1 ((I3 a1).bind λy2=>br (!y2.1) (some (true,())) (some ((decide (a0<a1)),()))) (some ((decide (a0<a1)),()))
def S9[dL] :=FB 261 Tryz.f261 Y1 [.b] (λx=>JM x.1 x.2.1) [R8] [] (by kernel_rfl) λx=>by simp only[JM,tm];kernel_rfl
abbrev Hw:LX:=⟨⟨[N5,K7,PJ,Mg,Pd],[],Ir,1,49⟩,[(.ext 2,⟨[N5,K7,PJ,Mg],[],Ir,1,49⟩)],[],[0,1,2,6,7],[0,1,2,6]⟩
def FY(s: (Unit×Int×Int×Int×Int×Unit)×Unit×List Int×Unit):Hw.R:=
 br (decide (s.1.2.2.2.2.1>s.1.2.1)) (iteP (0<=s.1.2.2.2.2.1/\s.1.2.2.2.2.1< (s.2.2.1.length:Int)) ((s.2.2.1[s.1.2.2.2.2.1.toNat]?).bind λx10=>iteP (0<=(IntKind.wrap .i64 (s.1.2.2.2.2.1-1))/\(IntKind.wrap .i64 (s.1.2.2.2.2.1-1))< (s.2.2.1.length:Int)) ((s.2.2.1[(IntKind.wrap .i64 (s.1.2.2.2.2.1-1)).toNat]?).bind λx11=>(JM x10 x11).bind λy12=>br y12.1 (iteP (0<=(IntKind.wrap .i64 (s.1.2.2.2.2.1-1))/\(IntKind.wrap .i64 (s.1.2.2.2.2.1-1))< (s.2.2.1.length:Int)) ((s.2.2.1[(IntKind.wrap .i64 (s.1.2.2.2.2.1-1)).toNat]?).bind λx13=>iteP (0<=s.1.2.2.2.2.1/\s.1.2.2.2.2.1< (s.2.2.1.length:Int)) ((s.2.2.1[s.1.2.2.2.2.1.toNat]?).bind λx14=>iteP (0<=s.1.2.2.2.2.1/\s.1.2.2.2.2.1< (s.2.2.1.length:Int)) (iteP (0<=(IntKind.wrap .i64 (s.1.2.2.2.2.1-1))/\(IntKind.wrap .i64 (s.1.2.2.2.2.1-1))< (s.2.2.1.length:Int)) ((s.2.2.1[s.1.2.2.2.2.1.toNat]?).bind λ_=>let z16:=s.2.2.1.set s.1.2.2.2.2.1.toNat x13;(z16[(IntKind.wrap .i64 (s.1.2.2.2.2.1-1)).toNat]?).bind λ_=>some (.inl (((),s.1.2.1,s.1.2.2.1,s.1.2.2.2.1,(IntKind.wrap .i64 (s.1.2.2.2.2.1-1)),()),(()),(z16.set ((IntKind.wrap .i64 (s.1.2.2.2.2.1-1)).toNat) x14),()))) none) none) none) none) (some (.inr (((),s.1.2.1,s.1.2.2.1,s.1.2.2.2.1,()),(()),s.2.2)))) none) none) (some (.inr (((),s.1.2.1,s.1.2.2.1,s.1.2.2.2.1,()),(()),s.2.2)))
def Hu:=md FY
def Kd[dL] :=Ib Tryz.f255 [0,0] Hw FY [S9] [] (by kernel_rfl) λs=>by simp only[FY,tm];kernel_rfl
abbrev Hv:LX:=⟨⟨[N5,K7,PJ,Mg],[],Ir,1,49⟩,[(.ext 0,⟨[],[],Ir,1,49⟩)],[],[0,1,2,6],[]⟩
def Fx(s: (Unit×Int×Int×Int×Unit)×Unit×List Int×Unit):Hv.R:=
 br (decide (s.1.2.2.2.1<s.1.2.2.1)) ((Hu (((),s.1.2.1,s.1.2.2.1,s.1.2.2.2.1,s.1.2.2.2),(()),s.2.2)).bind λe19=>some (.inl (((),e19.1.2.1,e19.1.2.2.1,(IntKind.wrap .i64 (e19.1.2.2.2.1+1)),()),(()),e19.2.2))) (some (.inr ((()),(()),s.2.2)))
def Ht:=md Fx
def Kb[dL] :=Ib Tryz.f255 [0] Hv Fx [] [Kd] (by kernel_rfl) λs=>by simp only[Fx,tm];kernel_rfl
def FK(a0:List Int)(a1:Int)(a2:Int):Option ((List Int)×Unit):=
 (Ht (((),a1,a2,(IntKind.wrap .i64 (a1+1)),()),(()),a0,())).bind λe20=>some e20.2.2
def Kv[dL] :=coI 255 Tryz.f255 (.i .i64) Y1 [] (λl x=>FK l x.1 x.2.1) [] [Kb] (by kernel_rfl) λl x=>by simp only[FK,tm];kernel_rfl
abbrev II:LX:=⟨⟨[N5,K7,PJ,N6,UJ,QA],[],Ir,1,134⟩,[(.ret,⟨[],[],Ir,1,134⟩)],[],[0,1,2,3,8,9],[]⟩
def Gk(s: (Unit×Int×Int×Int×Bool×Bool×Unit)×Unit×List Int×Unit):II.R:=
 br (decide ((IntKind.wrap .i64 (s.1.2.2.1-s.1.2.1))<=12)) ((FK s.2.2.1 s.1.2.1 s.1.2.2.1).bind λy7=>iteP (y7.1.length=s.2.2.1.length) (some (.inr ((()),(()),y7.1,()))) none) (br (s.1.2.2.2.1==0) (none) (br (!s.1.2.2.2.2.1) (none) (none)))
def IG:=md Gk
def L8[dL] :=Ib Tryz.f245 [0] II Gk [Kv] [] (by kernel_rfl) λs=>by simp only[Gk,tm,-eq_self];kernel_rfl
def Gc(a0:List Int)(a1:Int)(a2:Int)(a3:Int):Option ((List Int)×Unit):=
 (IG (((),a1,a2,a3,true,true,()),(()),a0,())).bind λe8=>some e8.2.2
def Mm[dL] :=coI 245 Tryz.f245 (.i .i64) Xw [] (λl x=>Gc l x.1 x.2.1 x.2.2.1) [] [L8] (by kernel_rfl) λl x=>by simp only[Gc,tm];kernel_rfl
def IB(a0:List Int):Option ((List Int)×Unit):=
 (Ps (IntKind.wrap .u64 (a0.length:Int))).bind λy1=>(Gc a0 0 (a0.length:Int) y1.1).bind λy2=>iteP (y2.1.length=a0.length) (some (y2.1,())) none
def Rz[dL] :=coI 226 Tryz.f226 (.i .i64) [] [] (λl _=>IB l) [Xh,Mm] [] (by kernel_rfl) λl x=>by simp only[IB,tm,-eq_self];kernel_rfl
abbrev Le:LX:=⟨⟨[N5,N6,(4,.cl (.sub 0 (.i .i64))),Nr],[],Ir,0,61⟩,[(.ext 2,⟨[N5,N6],[],Ir,0,61⟩)],[],[0,3,4,5],[0,3]⟩
def I1(s: (Unit×Int×(Nat×Nat)×Int×Unit)×Unit×List Int×Unit):Le.R:=
 br (decide (s.1.2.2.2.1< ((s.1.2.2.1.2:Nat):Int))) (iteP (0<=s.1.2.2.2.1/\s.1.2.2.2.1< ((s.1.2.2.1.2:Nat):Int)) ((s.2.2.1[(s.1.2.2.1.1+s.1.2.2.2.1.toNat)]?).bind λx9=>iteP (0<=(IntKind.wrap .i64 (s.1.2.2.2.1-1))/\(IntKind.wrap .i64 (s.1.2.2.2.1-1))< ((s.1.2.2.1.2:Nat):Int)) ((s.2.2.1[(s.1.2.2.1.1+(IntKind.wrap .i64 (s.1.2.2.2.1-1)).toNat)]?).bind λx10=>br (!(x9==x10)) (iteP (0<=s.1.2.2.2.1/\s.1.2.2.2.1< ((s.1.2.2.1.2:Nat):Int)) ((s.2.2.1[(s.1.2.2.1.1+s.1.2.2.2.1.toNat)]?).bind λx11=>iteP (0<=s.1.2.1/\s.1.2.1< (s.2.2.1.length:Int)) ((s.2.2.1[s.1.2.1.toNat]?).bind λ_=>some (.inl (((),(IntKind.wrap .i64 (s.1.2.1+1)),s.1.2.2.1,(IntKind.wrap .i64 (s.1.2.2.2.1+1)),()),(()),(s.2.2.1.set s.1.2.1.toNat x11),()))) none) none) (some (.inl (((),s.1.2.1,s.1.2.2.1,(IntKind.wrap .i64 (s.1.2.2.2.1+1)),()),(()),s.2.2)))) none) none) (some (.inr (((),s.1.2.1,()),(()),s.2.2)))
def OC:=md I1
def OF[dL] :=Ib Tryz.f227 [0,0] Le I1 [] [] (by kernel_rfl) λs=>by simp only[I1,tm];kernel_rfl
abbrev Ld:LX:=⟨⟨[N5,N6],[],Ir,0,61⟩,[(.ret,⟨[N5,(2,.cl (.sub 0 (.i .i64)))],[],Ir,0,61⟩),(.ext 0,⟨[N5,OD],[],Ir,0,61⟩)],[],[0,3],[0,2]⟩
def Gp(s:TK×Unit×List Int×Unit):Ld.R:=
 br (decide (s.1.2.1< (s.2.2.1.length:Int))) (iteP (0<=s.1.2.1/\s.1.2.1< (s.2.2.1.length:Int)) ((s.2.2.1[s.1.2.1.toNat]?).bind λx3=>iteP (0<=(IntKind.wrap .i64 (s.1.2.1-1))/\(IntKind.wrap .i64 (s.1.2.1-1))< (s.2.2.1.length:Int)) ((s.2.2.1[(IntKind.wrap .i64 (s.1.2.1-1)).toNat]?).bind λx4=>br (x3==x4) (iteP (0<=s.1.2.1/\s.1.2.1<=(s.2.2.1.length:Int)/\(s.2.2.1.length:Int)<=((s.2.2.1.length:Nat):Int)) ((OC (((),s.1.2.1,((0+s.1.2.1.toNat),((s.2.2.1.length:Int).toNat-s.1.2.1.toNat)),1,()),(()),s.2.2)).bind λe16=>iteP (0<=e16.1.2.1/\e16.1.2.1<=(e16.2.2.1.length:Int)/\(e16.2.2.1.length:Int)<=((e16.2.2.1.length:Nat):Int)) (iteP ((0+e16.1.2.1.toNat)+((e16.2.2.1.length:Int).toNat-e16.1.2.1.toNat)<=e16.2.2.1.length) (iteP (0<=(0:Int)/\(0:Int)<=e16.1.2.1/\e16.1.2.1<=((e16.2.2.1.length:Nat):Int)) (some (.inr (.inl (((),((0+(0:Int).toNat),(e16.1.2.1.toNat-(0:Int).toNat)),()),(()),(e16.2.2.1.take (0+e16.1.2.1.toNat)++List.replicate ((e16.2.2.1.length:Int).toNat-e16.1.2.1.toNat) (0:Int)++e16.2.2.1.drop ((0+e16.1.2.1.toNat)+((e16.2.2.1.length:Int).toNat-e16.1.2.1.toNat))),())))) none) none) none) none) (some (.inl (((),(IntKind.wrap .i64 (s.1.2.1+1)),()),(()),s.2.2)))) none) none) (some (.inr (.inr (((),(),()),(()),s.2.2))))
def Lc:=md Gp
def OE[dL] :=Ib Tryz.f227 [0] Ld Gp [] [OF] (by kernel_rfl) λs=>by simp only[Gp,tm];kernel_rfl
def Hq(a0:List Int):Option ((List Int)×Unit):=
 br (decide ((a0.length:Int)<2)) (some (a0,())) ((Lc (((),1,()),(()),a0,())).bind λe17=>Sum.elim (λe17_0=>iteP (e17_0.1.2.1.1=0/\e17_0.1.2.1.2<=e17_0.2.2.1.length) (some ((e17_0.2.2.1.take e17_0.1.2.1.2),())) (iteP (e17_0.1.2.1.1+e17_0.1.2.1.2<=e17_0.2.2.1.length) (some (((e17_0.2.2.1.drop e17_0.1.2.1.1).take e17_0.1.2.1.2),())) none)) (λe17_1=>some e17_1.2.2) e17)
def PF[dL] :=coM 227 Tryz.f227 (.i .i64) [] Lt (λl _=>Hq l) [] [OE] (by kernel_rfl) λl x=>by simp only[Hq,tm,-eq_self];kernel_rfl
def KR(a0:List Int):Option ((List Int)×Unit):=
 (Hp a0).bind λy1=>(IB y1.1).bind λy2=>iteP (y2.1.length=y1.1.length) ((Hq y2.1).bind λy3=>some (y3.1,())) none
def Un[dL] :=FB 195 Tryz.f195 VA Lt (λx=>KR x.1) [PE,Rz,PF] [] (by kernel_rfl) λx=>by simp only[KR,tm,-eq_self];kernel_rfl
def Gq(a0:Int)(a1:List Int):Option (Bool×Unit):=
 (Hk a1 a0).bind λy1=>some (y1.1,())
def Lb[dL] :=FB 244 Tryz.f244 [.ty (.i .i64),.pr (.ls (.i .i64))] [.b] (λx=>Gq x.1 x.2.1) [Md] [] (by kernel_rfl) λx=>by simp only[Gq,tm];kernel_rfl
abbrev GJ:LX:=⟨⟨[NI,(1,.fn 244 [.pro (.ls (.i .i64))]),Pd,PN],[],[],0,19⟩,[(.ret,⟨[M2],[],[],0,19⟩),(.ext 0,⟨[Qz],[],[],0,19⟩)],[],[0,1,7,8],[4]⟩
def Fr(s: (List Int×(List Int×Unit)×Int×Int×Unit)×Unit×Unit):GJ.R:=
 br (decide (s.1.2.2.2.1<s.1.2.2.1)) (iteP (0<=s.1.2.2.2.1) ((s.1.1[s.1.2.2.2.1.toNat]?).bind λx5=>(Gq x5 s.1.2.1.1).bind λy6=>br y6.1 (some (.inr (.inl (s.1.2.2.2,(()),(()))))) (some (.inl ((s.1.1,s.1.2.1,s.1.2.2.1,(IntKind.wrap .i64 (s.1.2.2.2.1+1)),()),(()),(()))))) none) (some (.inr (.inr (((),()),(()),(())))))
def F7:=md Fr
def IY[dL] :=Ib Tryz.f171 [0] GJ Fr [Lb] [] (by kernel_rfl) λs=>by simp only[Fr,tm];kernel_rfl
def FO(a0:List Int)(a1_0:List Int):Option (Int×Unit):=
 (F7 ((a0,(a1_0,()),(a0.length:Int),0,()),(()),(()))).bind λe7=>Sum.elim (λe7_0=>some e7_0.1) (λ_=>some ((-1),())) e7
def Jf[dL] :=FB 171 Tryz.f171 [.ty (.ls (.i .i64)),.fn 244 Lt] Kz (λx=>FO x.1 x.2.1.1) [] [IY] (by kernel_rfl) λx=>by simp only[FO,tm];kernel_rfl
abbrev Gv:LX:=⟨⟨[N5,(1,.fn 244 [.pro (.ls (.i .i64))]),Nr,Mg],[],Ir,0,42⟩,[(.ext 0,⟨[N5,Nr],[],Ir,0,42⟩)],[],[0,1,5,6],[0,5]⟩
def Fn(s: (Unit×(List Int×Unit)×Int×Int×Unit)×Unit×List Int×Unit):Gv.R:=
 br (decide (s.1.2.2.2.1< (s.2.2.1.length:Int))) (iteP (0<=s.1.2.2.2.1/\s.1.2.2.2.1< (s.2.2.1.length:Int)) ((s.2.2.1[s.1.2.2.2.1.toNat]?).bind λx6=>(Gq x6 s.1.2.1.1).bind λy7=>br (!y7.1) (iteP (0<=s.1.2.2.1/\s.1.2.2.1< (s.2.2.1.length:Int)) ((s.2.2.1[s.1.2.2.1.toNat]?).bind λ_=>some (.inl (((),s.1.2.1,(IntKind.wrap .i64 (s.1.2.2.1+1)),(IntKind.wrap .i64 (s.1.2.2.2.1+1)),()),(()),(s.2.2.1.set s.1.2.2.1.toNat x6),()))) none) (some (.inl (((),s.1.2.1,s.1.2.2.1,(IntKind.wrap .i64 (s.1.2.2.2.1+1)),()),(()),s.2.2)))) none) (some (.inr (((),s.1.2.2.1,()),(()),s.2.2)))
def Gu:=md Fn
def Ig[dL] :=Ib Tryz.f243 [0] Gv Fn [Lb] [] (by kernel_rfl) λs=>by simp only[Fn,tm];kernel_rfl
def Fv(a0:List Int)(a1_0:List Int):Option ((List Int)×Unit):=
 (FO a0 a1_0).bind λy1=>br (y1.1==(-1)) (some (a0,())) ((Gu (((),(a1_0,()),y1.1,(IntKind.wrap .i64 (y1.1+1)),()),(()),a0,())).bind λe12=>iteP (0<=e12.1.2.1/\e12.1.2.1<=(e12.2.2.1.length:Int)/\(e12.2.2.1.length:Int)<=((e12.2.2.1.length:Nat):Int)) (iteP ((0+e12.1.2.1.toNat)+((e12.2.2.1.length:Int).toNat-e12.1.2.1.toNat)<=e12.2.2.1.length) (iteP (0<=(0:Int)/\(0:Int)<=e12.1.2.1/\e12.1.2.1<=((e12.2.2.1.length:Nat):Int)) (iteP ((0+(0:Int).toNat)=0/\(e12.1.2.1.toNat-(0:Int).toNat)<=(e12.2.2.1.take (0+e12.1.2.1.toNat)++List.replicate ((e12.2.2.1.length:Int).toNat-e12.1.2.1.toNat) (0:Int)++e12.2.2.1.drop ((0+e12.1.2.1.toNat)+((e12.2.2.1.length:Int).toNat-e12.1.2.1.toNat))).length) (some (((e12.2.2.1.take (0+e12.1.2.1.toNat)++List.replicate ((e12.2.2.1.length:Int).toNat-e12.1.2.1.toNat) (0:Int)++e12.2.2.1.drop ((0+e12.1.2.1.toNat)+((e12.2.2.1.length:Int).toNat-e12.1.2.1.toNat))).take (e12.1.2.1.toNat-(0:Int).toNat)),())) (iteP ((0+(0:Int).toNat)+(e12.1.2.1.toNat-(0:Int).toNat)<=(e12.2.2.1.take (0+e12.1.2.1.toNat)++List.replicate ((e12.2.2.1.length:Int).toNat-e12.1.2.1.toNat) (0:Int)++e12.2.2.1.drop ((0+e12.1.2.1.toNat)+((e12.2.2.1.length:Int).toNat-e12.1.2.1.toNat))).length) (some ((((e12.2.2.1.take (0+e12.1.2.1.toNat)++List.replicate ((e12.2.2.1.length:Int).toNat-e12.1.2.1.toNat) (0:Int)++e12.2.2.1.drop ((0+e12.1.2.1.toNat)+((e12.2.2.1.length:Int).toNat-e12.1.2.1.toNat))).drop (0+(0:Int).toNat)).take (e12.1.2.1.toNat-(0:Int).toNat)),())) none)) none) none) none)
def Iu[dL] :=coM 243 Tryz.f243 (.i .i64) [.fn 244 Lt] Lt (λl x=>Fv l x.1.1) [Jf] [Ig] (by kernel_rfl) λl x=>by simp only[Fv,tm,-eq_self];kernel_rfl
def G0(a0:List Int)(a1:List Int):Option ((List Int)×Unit):=
 (KR a0).bind λy1=>(Fv y1.1 a1).bind λy2=>some (y2.1,())
def P3[dL] :=FB 225 Tryz.f225 UG Lt (λx=>G0 x.1 x.2.1) [Un,Iu] [] (by kernel_rfl) λx=>by simp only[G0,tm];kernel_rfl
def H4(a0:List Int)(a1:List Int):Option ((List Int)×Unit):=
 (G0 a0 a1).bind λy1=>(G0 a0 y1.1).bind λy2=>some (y2.1,())
def QJ[dL] :=FB 194 Tryz.f194 UG Lt (λx=>H4 x.1 x.2.1) [P3] [] (by kernel_rfl) λx=>by simp only[H4,tm];kernel_rfl
def Hb(a0:om):Option (Bool×Unit):=
 (Fj a0.epoch 1 20).bind λy1=>br y1.1 ((GO a0.replicas).bind λy2=>br y2.1 ((GO a0.witnesses).bind λy3=>br y3.1 ((Hk a0.replicas a0.primary).bind λy4=>br y4.1 ((H4 a0.replicas a0.witnesses).bind λy5=>some (((y5.1.length:Int)==0),())) (some (false,()))) (some (false,()))) (some (false,()))) (some (false,()))
def Nv[dL] :=FB 121 Tryz.f121 WO [.b] (λx=>Hb x.1) [Gf,Ta,Md,QJ] [] (by kernel_rfl) λx=>by simp only[Hb,tm];kernel_rfl
abbrev NE:LX:=⟨⟨[J9,(6,.cl (.ro (.st .config))),Pd,PN],[VE],[],0,30⟩,[(.ret,⟨[J9,PO],[VE],[],0,30⟩),(.ext 0,⟨[J9,OD],[VE],[],0,30⟩)],[],[1,6,7,8],[1,2]⟩
def Ha(s: (Unit×List om×Int×Int×Unit)×(ZH×Unit)×Unit):NE.R:=
 br (decide (s.1.2.2.2.1<s.1.2.2.1)) (iteP (0<=s.1.2.2.2.1) ((s.1.2.1[s.1.2.2.2.1.toNat]?).bind λx6=>(Hb x6).bind λy7=>br (!y7.1) (some (.inr (.inl (((),false,()),s.2.1,(()))))) (br (!(x6.epoch==(IntKind.wrap .i64 (s.1.2.2.2.1+1)))) (some (.inr (.inl (((),false,()),s.2.1,(()))))) (some (.inl (((),s.1.2.1,s.1.2.2.1,(IntKind.wrap .i64 (s.1.2.2.2.1+1)),()),s.2.1,(())))))) none) (some (.inr (.inr (((),(),()),s.2.1,(())))))
def K6:=md Ha
def QW[dL] :=Ib Tryz.f138 [0] NE Ha [Nv] [] (by kernel_rfl) λs=>by simp only[Ha,tm];kernel_rfl
def Il(a0:kB):Option (Bool×Unit):=
 (K6 (((),a0.configs,(a0.configs.length:Int),0,()),((a0.configs,a0.activated,()),()),(()))).bind λe8=>Sum.elim (λe8_0=>some e8_0.1.2) (λe8_1=>(Fj e8_1.2.1.1.2.1 0 (e8_1.2.1.1.1.length:Int)).bind λy9=>some (y9.1,())) e8
def OH[dL] :=FB 138 Tryz.f138 UE [.b] (λx=>Il x.1) [Gf] [QW] (by kernel_rfl) λx=>by simp only[Il,tm];kernel_rfl
def GG(a0:vz):Option (Bool×Unit):=
 br ((a0.epoch==0)&&((a0.holder==0)&&((a0.ends==0)&&true))) (some (true,())) ((Fj a0.epoch 1 20).bind λy1=>br y1.1 ((Fj a0.holder 0 4).bind λy2=>br y2.1 ((Fj a0.ends 1 1049).bind λy3=>some (y3.1,())) (some (false,()))) (some (false,())))
def SJ[dL] :=FB 134 Tryz.f134 Xy [.b] (λx=>GG x.1) [Gf] [] (by kernel_rfl) λx=>by simp only[GG,tm];kernel_rfl
def JN(a0:vB):Option (Bool×Unit):=
 (Fj a0.rack 0 9).bind λy1=>br (!y1.1) (some (true,())) ((Fj a0.capacity 0 9).bind λy2=>br (!y2.1) (some (true,())) ((Fj a0.load 0 99).bind λy3=>some ((!y3.1),())))
def Rc[dL] :=FB 209 Tryz.f209 [.ty (.st .place)] [.b] (λx=>JN x.1) [Gf] [] (by kernel_rfl) λx=>by simp only[JN,tm];kernel_rfl
abbrev G8:LX:=⟨⟨[RI,(1,.cl (.fc 209)),Pd,PN],[],[],0,19⟩,[(.ret,⟨[M2],[],[],0,19⟩),(.ext 0,⟨[Qz],[],[],0,19⟩)],[],[0,1,7,8],[4]⟩
def Fu(s: (List vB×Unit×Int×Int×Unit)×Unit×Unit):G8.R:=
 br (decide (s.1.2.2.2.1<s.1.2.2.1)) (iteP (0<=s.1.2.2.2.1) ((s.1.1[s.1.2.2.2.1.toNat]?).bind λx4=>(JN x4).bind λy5=>br y5.1 (some (.inr (.inl (s.1.2.2.2,(()),(()))))) (some (.inl ((s.1.1,(),s.1.2.2.1,(IntKind.wrap .i64 (s.1.2.2.2.1+1)),()),(()),(()))))) none) (some (.inr (.inr (((),()),(()),(())))))
def Gd:=md Fu
def Jv[dL] :=Ib Tryz.f230 [0] G8 Fu [Rc] [] (by kernel_rfl) λs=>by simp only[Fu,tm];kernel_rfl
def F1(a0:List vB):Option (Int×Unit):=
 (Gd ((a0,(),(a0.length:Int),0,()),(()),(()))).bind λe6=>Sum.elim (λe6_0=>some e6_0.1) (λ_=>some ((-1),())) e6
def J6[dL] :=FB 230 Tryz.f230 Y2 Kz (λx=>F1 x.1) [] [Jv] (by kernel_rfl) λx=>by simp only[F1,tm];kernel_rfl
def FM(a0:List vB):Option (Bool×Unit):=
 (F1 a0).bind λy1=>some ((decide (y1.1≥0)),())
def Jd[dL] :=FB 208 Tryz.f208 Y2 [.b] (λx=>FM x.1) [J6] [] (by kernel_rfl) λx=>by simp only[FM,tm];kernel_rfl
def Jy(a0:List vB):Option (Bool×Unit):=
 br ((a0.length:Int)==5) ((FM a0).bind λy1=>some ((!y1.1),())) (some (false,()))
def Ui[dL] :=FB 155 Tryz.f155 Xx [.b] (λx=>Jy x.1) [Jd] [] (by kernel_rfl) λx=>by simp only[Jy,tm];kernel_rfl
def Iw(a0:Op):Option (Bool×Unit):=
 (Fj a0.client 0 2).bind λy1=>br (!y1.1) (some (false,())) ((Fj a0.seq 1 99).bind λy2=>br (!y2.1) (some (false,())) ((Fj a0.object 0 2).bind λy3=>br (!y3.1) (some (false,())) ((Fj a0.value 0 9).bind λy4=>br (!y4.1) (some (false,())) (br (a0.kind==1) (br (a0.old==0) (some (true,())) (br (a0.kind==2) ((Fj a0.old 0 9).bind λy5=>some (y5.1,())) (some (false,())))) (br (a0.kind==2) ((Fj a0.old 0 9).bind λy6=>some (y6.1,())) (some (false,())))))))
def Qp[dL] :=FB 203 Tryz.f203 V7 [.b] (λx=>Iw x.1) [Gf] [] (by kernel_rfl) λx=>by simp only[Iw,tm];kernel_rfl
abbrev SQ:LX:=⟨⟨[Mh,(5,.cl (.ro (.st .entry))),Mg,Pd],[],[],0,41⟩,[(.ret,⟨[Mh,PO],[],[],0,41⟩),(.ext 0,⟨[Mh,OD],[],[],0,41⟩)],[],[0,5,6,7],[0,2]⟩
def Lw(s: (List sf×List sf×Int×Int×Unit)×Unit×Unit):SQ.R:=
 br (decide (s.1.2.2.2.1<s.1.2.2.1)) (iteP (0<=s.1.2.2.2.1) ((s.1.2.1[s.1.2.2.2.1.toNat]?).bind λx5=>(Fj x5.epoch 1 20).bind λy6=>br (!y6.1) (some (.inr (.inl ((s.1.1,false,()),(()),(()))))) (br (decide (s.1.2.2.2.1>0)) (iteP (0<=(IntKind.wrap .i64 (s.1.2.2.2.1-1))) ((s.1.1[(IntKind.wrap .i64 (s.1.2.2.2.1-1)).toNat]?).bind λx7=>br (decide (x5.epoch<x7.epoch)) (some (.inr (.inl ((s.1.1,false,()),(()),(()))))) ((Iw x5.op).bind λy8=>br (!y8.1) (some (.inr (.inl ((s.1.1,false,()),(()),(()))))) (some (.inl ((s.1.1,s.1.2.1,s.1.2.2.1,(IntKind.wrap .i64 (s.1.2.2.2.1+1)),()),(()),(())))))) none) ((Iw x5.op).bind λy9=>br (!y9.1) (some (.inr (.inl ((s.1.1,false,()),(()),(()))))) (some (.inl ((s.1.1,s.1.2.1,s.1.2.2.1,(IntKind.wrap .i64 (s.1.2.2.2.1+1)),()),(()),(()))))))) none) (some (.inr (.inr ((s.1.1,(),()),(()),(())))))
def Qb:=md Lw
def WR[dL] :=Ib Tryz.f140 [0] SQ Lw [Gf,Qp] [] (by kernel_rfl) λs=>by simp only[Lw,tm];kernel_rfl
def Lj(a0:List sf):Option (Bool×Unit):=
 (Qb ((a0,a0,(a0.length:Int),0,()),(()),(()))).bind λe10=>Sum.elim (λe10_0=>some e10_0.1.2) (λe10_1=>some ((decide ((e10_1.1.1.length:Int)<=16)),())) e10
def Td[dL] :=FB 140 Tryz.f140 Qf [.b] (λx=>Lj x.1) [] [WR] (by kernel_rfl) λx=>by simp only[Lj,tm];kernel_rfl
abbrev Oh:LX:=⟨⟨[NI,PI,PL,(13,.cl (.int .i64))],[],[],0,26⟩,[(.ret,⟨[UH],[],[],0,26⟩),(.ext 0,⟨[Qz],[],[],0,26⟩)],[],[0,1,12,13],[4]⟩
def HH(s:Zi×Unit×Unit):Oh.R:=
 br (decide (s.1.2.2.2.1<s.1.2.2.1)) (iteP (0<=s.1.2.2.2.1) ((s.1.1[s.1.2.2.2.1.toNat]?).bind λx5=>iteP (0<=s.1.2.2.2.1) ((s.1.2.1[s.1.2.2.2.1.toNat]?).bind λx6=>br (!(x5==x6)) (some (.inr (.inl ((false,()),(()),(()))))) (some (.inl ((s.1.1,s.1.2.1,s.1.2.2.1,(IntKind.wrap .i64 (s.1.2.2.2.1+1)),()),(()),(()))))) none) none) (some (.inr (.inr (((),()),(()),(())))))
def LR:=md HH
def R4[dL] :=Ib Tryz.f74 [0] Oh HH [] [] (by kernel_rfl) λs=>by simp only[HH,tm];kernel_rfl
def Ln(a0:List Int)(a1:List Int):Option (Bool×Unit):=
 br (!((a0.length:Int)==(a1.length:Int))) (some (false,())) ((LR ((a0,a1,(a0.length:Int),0,()),(()),(()))).bind λe7=>Sum.elim (λe7_0=>some e7_0.1) (λ_=>some (true,())) e7)
def TC[dL] :=FB 74 Tryz.f74 UG [.b] (λx=>Ln x.1 x.2.1) [] [R4] (by kernel_rfl) λx=>by simp only[Ln,tm];kernel_rfl
def HJ(a0:List Int)(a1:List Int):Option (Bool×Unit):=
 (Ln a0 a1).bind λy1=>some (y1.1,())
def Rd[dL] :=FB 206 Tryz.f206 UG [.b] (λx=>HJ x.1 x.2.1) [TC] [] (by kernel_rfl) λx=>by simp only[HJ,tm];kernel_rfl
def G2(a0:om)(a1:om):Option (Bool×Unit):=
 br (a0.epoch==a1.epoch) (br (a0.primary==a1.primary) ((HJ a0.replicas a1.replicas).bind λy1=>br y1.1 ((HJ a0.witnesses a1.witnesses).bind λy2=>some (y2.1,())) (some (false,()))) (some (false,()))) (some (false,()))
def NW[dL] :=FB 151 Tryz.f151 YR [.b] (λx=>G2 x.1 x.2.1) [Rd] [] (by kernel_rfl) λx=>by simp only[G2,tm];kernel_rfl
def Jz(a0:List sf):Option (Int×Unit):=
 br ((a0.length:Int)==0) (some (0,())) (iteP (0<=(IntKind.wrap .i64 ((a0.length:Int)-1))) ((a0[(IntKind.wrap .i64 ((a0.length:Int)-1)).toNat]?).bind λx1=>some (x1.epoch,())) none)
def Qq[dL] :=FB 141 Tryz.f141 Qf Kz (λx=>Jz x.1) [] [] (by kernel_rfl) λx=>by simp only[Jz,tm];kernel_rfl
def MB(a0:om)(a1:Int):Option (Int×Unit):=
 (Hb a0).bind λy1=>br (!y1.1) (some (0,())) (br (a1==a0.primary) (some (1,())) ((Hk a0.replicas a1).bind λy2=>br y2.1 (some (2,())) ((Hk a0.witnesses a1).bind λy3=>br y3.1 (some (3,())) (some (0,())))))
def Ul[dL] :=FB 123 Tryz.f123 YS Kz (λx=>MB x.1 x.2.1) [Nv,Md] [] (by kernel_rfl) λx=>by simp only[MB,tm];kernel_rfl
def NL(a0:Int)(a1:List sf):Option (Bool×Unit):=
 (Lj a1).bind λy1=>br y1.1 (br (decide ((a1.length:Int)<=3)) ((Fj a0 0 (IntKind.wrap .i64 (16-(a1.length:Int)))).bind λy2=>br y2.1 (br (a0==0) (some (true,())) (some (((a1.length:Int)==3),()))) (some (false,()))) (some (false,()))) (some (false,()))
def Xi[dL] :=FB 172 Tryz.f172 YY [.b] (λx=>NL x.1 x.2.1) [Td,Gf] [] (by kernel_rfl) λx=>by simp only[NL,tm];kernel_rfl
def Hc(a0:qQ)(a1:Int):Option (Bool×Unit):=
 (Fj a0.version 1 2).bind λy1=>br (!y1.1) (some (false,())) ((Fj a0.epoch 0 20).bind λy2=>br (!y2.1) (some (false,())) ((Lj a0.log).bind λy3=>br (!y3.1) (some (false,())) ((Lj a0.learned).bind λy4=>br (!y4.1) (some (false,())) ((Fj a0.first 0 16).bind λy5=>br (!y5.1) (some (false,())) (br (decide ((IntKind.wrap .i64 (a0.first+(a0.log.length:Int)))>16)) (some (false,())) ((Fj a0.commit 0 (IntKind.wrap .i64 (a0.first+(a0.log.length:Int)))).bind λy6=>br (!y6.1) (some (false,())) ((G2 a0.config (⟨0,0,([]:List Int),([]:List Int)⟩:om)).bind λy7=>br y7.1 (br (a0.first==0) (br (a0.commit==0) (some (((a0.log.length:Int)==0),())) (some (false,()))) (some (false,()))) (br (!a0.intact) (some (false,())) (br (decide (a0.epoch<a0.config.epoch)) (some (false,())) ((Jz a0.log).bind λy8=>br (decide (y8.1>a0.config.epoch)) (some (false,())) ((MB a0.config a1).bind λy9=>br (y9.1==1) (some ((a0.first==0),())) (br (y9.1==2) (some ((a0.first==0),())) (br (y9.1==3) ((NL a0.first a0.log).bind λy12=>some (y12.1,())) (some (false,())))))))))))))))
def Nw[dL] :=FB 156 Tryz.f156 TJ [.b] (λx=>Hc x.1 x.2.1) [Gf,Td,NW,Qq,Ul,Xi] [] (by kernel_rfl) λx=>by simp only[Hc,tm];kernel_rfl
def Gl(a0:om):Option (om×Unit):=
 iteP ((([]:List Int)++a0.replicas).length*8<=2 ^ 40) (iteP ((([]:List Int)++a0.witnesses).length*8<=2 ^ 40) (some ((⟨a0.epoch,a0.primary,(([]:List Int)++a0.replicas),(([]:List Int)++a0.witnesses)⟩:om),())) none) none
def Tg[dL] :=FB 139 Tryz.f139 WO YB (λx=>Gl x.1) [] [] (by kernel_rfl) λx=>by simp only[Gl,tm];kernel_rfl
def Jo(a0:kB)(a1:Int):Option (om×Bool×Unit):=
 (Il a0).bind λy1=>br (!y1.1) (some ((⟨0,0,([]:List Int),([]:List Int)⟩:om),false,())) ((Fj a1 1 (a0.configs.length:Int)).bind λy2=>br (!y2.1) (some ((⟨0,0,([]:List Int),([]:List Int)⟩:om),false,())) (iteP (0<=(IntKind.wrap .i64 (a1-1))) ((a0.configs[(IntKind.wrap .i64 (a1-1)).toNat]?).bind λx3=>(Gl x3).bind λy4=>some (y4.1,true,())) none))
def Vg[dL] :=FB 157 Tryz.f157 Xz XO (λx=>Jo x.1 x.2.1) [OH,Gf,Tg] [] (by kernel_rfl) λx=>by simp only[Jo,tm];kernel_rfl
abbrev LV:LX:=⟨⟨[J9,(57,.cl (.ro (.st .server))),(58,.cl (.int .i64)),(59,.cl (.int .i64))],[K8],[],0,118⟩,[(.ret,⟨[PO],[],[],0,118⟩),(.ext 0,⟨[OD],[],[],0,118⟩)],[],[1,57,58,59],[2]⟩
def Gy(s: (Unit×List qQ×Int×Int×Unit)×(N8×Unit)×Unit):LV.R:=
 br (decide (s.1.2.2.2.1<s.1.2.2.1)) (iteP (0<=s.1.2.2.2.1) ((s.1.2.1[s.1.2.2.2.1.toNat]?).bind λx20=>(Hc x20 s.1.2.2.2.1).bind λy21=>br (!y21.1) (some (.inr (.inl ((false,()),(()),(()))))) (br (decide (x20.epoch>(s.2.1.1.2.2.2.1.length:Int))) (some (.inr (.inl ((false,()),(()),(()))))) ((Jz x20.learned).bind λy22=>br (decide (y22.1>s.2.1.1.2.2.2.2.1)) (some (.inr (.inl ((false,()),(()),(()))))) ((G2 x20.config (⟨0,0,([]:List Int),([]:List Int)⟩:om)).bind λy23=>br y23.1 (some (.inl (((),s.1.2.1,s.1.2.2.1,(IntKind.wrap .i64 (s.1.2.2.2.1+1)),()),s.2.1,(())))) ((Jo (⟨s.2.1.1.2.2.2.1,s.2.1.1.2.2.2.2.1⟩:kB) x20.config.epoch).bind λy24=>br (!y24.2.1) (some (.inr (.inl ((false,()),(()),(()))))) ((G2 y24.1 x20.config).bind λy25=>br (!y25.1) (some (.inr (.inl ((false,()),(()),(()))))) (br (decide (x20.config.epoch>s.2.1.1.2.2.2.2.1)) (some (.inr (.inl ((false,()),(()),(()))))) (some (.inl (((),s.1.2.1,s.1.2.2.1,(IntKind.wrap .i64 (s.1.2.2.2.1+1)),()),s.2.1,(()))))))))))) none) (some (.inr (.inr (((),()),(()),(())))))
def Js:=md Gy
def Pg[dL] :=Ib Tryz.f77 [0] LV Gy [Nw,Qq,NW,Vg] [] (by kernel_rfl) λs=>by simp only[Gy,tm];kernel_rfl
def HK(a0:qN):Option (Bool×Unit):=
 (Fj a0.now 0 999).bind λy1=>br (!y1.1) (some (false,())) (br (!((a0.servers.length:Int)==5)) (some (false,())) ((Ki a0.sides).bind λy2=>br (!y2.1) (some (false,())) ((Il a0.master).bind λy3=>br (!y3.1) (some (false,())) ((GG a0.lease).bind λy4=>br (!y4.1) (some (false,())) ((Jy a0.places).bind λy5=>br (!y5.1) (some (false,())) ((Fj a0.masterUp 0 3).bind λy6=>br (!y6.1) (some (false,())) (br (decide (a0.lease.epoch>a0.master.activated)) (some (false,())) ((Js (((),a0.servers,(a0.servers.length:Int),0,()),((a0.now,a0.servers,a0.sides,a0.master.configs,a0.master.activated,a0.masterUp,a0.lease.epoch,a0.lease.holder,a0.lease.ends,a0.places,()),()),(()))).bind λe26=>Sum.elim (λe26_0=>some e26_0.1) (λ_=>some (true,())) e26))))))))
def P2[dL] :=FB 77 Tryz.f77 TH [.b] (λx=>HK x.1) [Gf,Vf,OH,SJ,Ui] [Pg] (by kernel_rfl) λx=>by simp only[HK,tm];kernel_rfl
def Gh(a0:qN)(a1:Int):Option (Bool×Unit):=
 (HK a0).bind λy1=>br y1.1 ((Fj a1 0 4).bind λy2=>some (y2.1,())) (some (false,()))
def OI[dL] :=FB 92 Tryz.f92 LU [.b] (λx=>Gh x.1 x.2.1) [P2,Gf] [] (by kernel_rfl) λx=>by simp only[Gh,tm];kernel_rfl
def MC(a0:qN)(a1:Int):Option (Int×Unit):=
 (Gh a0 a1).bind λy1=>br (!y1.1) (some (1,())) (iteP (0<=a1) ((a0.servers[a1.toNat]?).bind λx2=>br (!x2.up) (some (2,())) (some (0,()))) none)
def Up[dL] :=FB 105 Tryz.f105 LU Kz (λx=>MC x.1 x.2.1) [OI] [] (by kernel_rfl) λx=>by simp only[MC,tm];kernel_rfl
def Iv(a0:qQ)(a1:Int):Option (Bool×Unit):=
 (Hc a0 a1).bind λy1=>br y1.1 (br a0.up ((MB a0.config a1).bind λy2=>br (y2.1==1) (some ((a0.epoch==a0.config.epoch),())) (some (false,()))) (some (false,()))) (some (false,()))
def Re[dL] :=FB 177 Tryz.f177 TJ [.b] (λx=>Iv x.1 x.2.1) [Nw,Ul] [] (by kernel_rfl) λx=>by simp only[Iv,tm];kernel_rfl
def GR(a0:qN)(a1:Int):Option (Bool×Unit):=
 (Gh a0 a1).bind λy1=>br y1.1 (iteP (0<=a1) ((a0.servers[a1.toNat]?).bind λx2=>(Iv x2 a1).bind λy3=>some (y3.1,())) none) (some (false,()))
def OJ[dL] :=FB 106 Tryz.f106 LU [.b] (λx=>GR x.1 x.2.1) [OI,Re] [] (by kernel_rfl) λx=>by simp only[GR,tm];kernel_rfl
def HW(a0:vz)(a1:Int)(a2:Int)(a3:Int):Option (Bool×Unit):=
 (GG a0).bind λy1=>br y1.1 (br (!((a0.epoch==0)&&((a0.holder==0)&&((a0.ends==0)&&true)))) (br (a0.epoch==a1) (br (a0.holder==a2) ((Fj a3 0 999).bind λy2=>br y2.1 (some ((decide ((IntKind.wrap .i64 (a3+3))<a0.ends)),())) (some (false,()))) (some (false,()))) (some (false,()))) (some (false,()))) (some (false,()))
def Tc[dL] :=FB 111 Tryz.f111 YX [.b] (λx=>HW x.1 x.2.1 x.2.2.1 x.2.2.2.1) [SJ,Gf] [] (by kernel_rfl) λx=>by simp only[HW,tm];kernel_rfl
def GC(a0:qN)(a1:Int):Option (Bool×Unit):=
 (GR a0 a1).bind λy1=>br y1.1 (iteP (0<=a1) ((a0.servers[a1.toNat]?).bind λx2=>(HW a0.lease x2.config.epoch a1 a0.now).bind λy3=>some (y3.1,())) none) (some (false,()))
def MO[dL] :=FB 37 Tryz.f37 LU [.b] (λx=>GC x.1 x.2.1) [OJ,Tc] [] (by kernel_rfl) λx=>by simp only[GC,tm];kernel_rfl
def G6(a0:List sf):Option ((List sf)×Unit):=iteP (a0.length*56<=2 ^ 40) (some (a0,())) none
def Ry[dL] :=coC 93 Tryz.f93 (.st .entry) 56 G6 (by kernel_rfl) (λ_=>rfl) λ_=>by kernel_rfl
def H3(a0:qQ):Option ((List sf)×Unit):=
 br (decide (a0.first<0)) (some (([]:List sf),())) ((Fj a0.commit a0.first (IntKind.wrap .i64 (a0.first+(a0.log.length:Int)))).bind λy1=>br (!y1.1) (some (([]:List sf),())) (iteP (0<=(0:Int)/\(0:Int)<=(IntKind.wrap .i64 (a0.commit-a0.first))/\(IntKind.wrap .i64 (a0.commit-a0.first))<=(a0.log.length:Int)) ((G6 ((a0.log.drop (0:Int).toNat).take ((IntKind.wrap .i64 (a0.commit-a0.first)).toNat-(0:Int).toNat))).bind λy2=>some (y2.1,())) none))
def QI[dL] :=FB 136 Tryz.f136 XC VD (λx=>H3 x.1) [Gf,Ry] [] (by kernel_rfl) λx=>by simp only[H3,tm];kernel_rfl
def JP:Option (nX×Unit):=
 iteP (0<=(3:Int)/\(3:Int)=3/\3*((8:Nat):Int)<=2 ^ 40) (some ((⟨(List.replicate (3:Int).toNat (0:Int)),([]:List nY)⟩:nX),())) none
def Te[dL] :=FB 213 Tryz.f213 [] YC (λ_=>JP) [] [] (by kernel_rfl) λx=>by simp only[JP,tm,-eq_self];kernel_rfl
def Ks(a0:List nY):Option ((List nY)×Unit):=iteP (a0.length*32<=2 ^ 40) (some (a0,())) none
def Qa[dL] :=coC 247 Tryz.f247 (.st .session) 32 Ks (by kernel_rfl) (λ_=>rfl) λ_=>by kernel_rfl
def I4(a0:nX):Option (nX×Unit):=
 (Hp a0.objects).bind λy1=>(Ks a0.sessions).bind λy2=>some ((⟨y1.1,y2.1⟩:nX),())
def Sa[dL] :=FB 231 Tryz.f231 V8 YC (λx=>I4 x.1) [PE,Qa] [] (by kernel_rfl) λx=>by simp only[I4,tm];kernel_rfl
abbrev OV:LX:=⟨⟨[K7,M1,(9,.cl (.ro (.st .session))),UL,XH],[SO],[],0,22⟩,[(.ret,⟨[M1,(5,.cl (.bl))],[SO],[],0,22⟩),(.ext 0,⟨[M1,XE],[SO],[],0,22⟩)],[],[1,4,9,10,11],[4,5]⟩
def Ii(s: (Int×Unit×List nY×Int×Int×Unit)×(Zb×Unit)×Unit):OV.R:=
 br (decide (s.1.2.2.2.2.1<s.1.2.2.2.1)) (iteP (0<=s.1.2.2.2.2.1) ((s.1.2.2.1[s.1.2.2.2.2.1.toNat]?).bind λx9=>br (x9.client==s.1.1) (some (.inr (.inl (((),true,()),((x9.client,x9.seq,x9.result.done,x9.result.value,()),()),(()))))) (some (.inl ((s.1.1,(),s.1.2.2.1,s.1.2.2.2.1,(IntKind.wrap .i64 (s.1.2.2.2.2.1+1)),()),s.2.1,(()))))) none) (some (.inr (.inr (((),(),()),s.2.1,(())))))
def Mn:=md Ii
def Su[dL] :=Ib Tryz.f232 [0] OV Ii [] [] (by kernel_rfl) λs=>by simp only[Ii,tm];kernel_rfl
def KQ(a0:nX)(a1:Int):Option (nY×Bool×Unit):=
 (Mn ((a1,(),a0.sessions,(a0.sessions.length:Int),0,()),((0,0,false,0,()),()),(()))).bind λe10=>Sum.elim (λe10_0=>some ((⟨e10_0.2.1.1.1,e10_0.2.1.1.2.1,(⟨e10_0.2.1.1.2.2.1,e10_0.2.1.1.2.2.2.1⟩:Result)⟩:nY),e10_0.1.2)) (λ_=>some ((⟨0,0,(⟨false,0⟩:Result)⟩:nY),false,())) e10
def Um[dL] :=FB 232 Tryz.f232 V9 [.st .session,.b] (λx=>KQ x.1 x.2.1) [] [Su] (by kernel_rfl) λx=>by simp only[KQ,tm];kernel_rfl
def HD(a0:Int):Option (Bool×Unit):=
 (Fj a0 0 9).bind λy1=>some ((!y1.1),())
def OB[dL] :=FB 234 Tryz.f234 Sr [.b] (λx=>HD x.1) [Gf] [] (by kernel_rfl) λx=>by simp only[HD,tm];kernel_rfl
abbrev GI:LX:=⟨⟨[NI,(1,.cl (.fc 234)),Pd,PN],[],[],0,19⟩,[(.ret,⟨[M2],[],[],0,19⟩),(.ext 0,⟨[Qz],[],[],0,19⟩)],[],[0,1,7,8],[4]⟩
def Fq(s:Zh×Unit×Unit):GI.R:=
 br (decide (s.1.2.2.2.1<s.1.2.2.1)) (iteP (0<=s.1.2.2.2.1) ((s.1.1[s.1.2.2.2.1.toNat]?).bind λx4=>(HD x4).bind λy5=>br y5.1 (some (.inr (.inl (s.1.2.2.2,(()),(()))))) (some (.inl ((s.1.1,(),s.1.2.2.1,(IntKind.wrap .i64 (s.1.2.2.2.1+1)),()),(()),(()))))) none) (some (.inr (.inr (((),()),(()),(())))))
def F6:=md Fq
def IX[dL] :=Ib Tryz.f171 [0] GI Fq [OB] [] (by kernel_rfl) λs=>by simp only[Fq,tm];kernel_rfl
def FN(a0:List Int):Option (Int×Unit):=
 (F6 ((a0,(),(a0.length:Int),0,()),(()),(()))).bind λe6=>Sum.elim (λe6_0=>some e6_0.1) (λ_=>some ((-1),())) e6
def Je[dL] :=FB 171 Tryz.f171 Y3 Kz (λx=>FN x.1) [] [IX] (by kernel_rfl) λx=>by simp only[FN,tm];kernel_rfl
def FE(a0:List Int):Option (Bool×Unit):=
 (FN a0).bind λy1=>some ((decide (y1.1≥0)),())
def IE[dL] :=FB 98 Tryz.f98 Y3 [.b] (λx=>FE x.1) [Je] [] (by kernel_rfl) λx=>by simp only[FE,tm];kernel_rfl
abbrev LW:LX:=⟨⟨[J9,(15,.cl (.ro (.st .session))),(16,.cl (.int .i64)),(17,.cl (.int .i64))],[UN],[],0,56⟩,[(.ret,⟨[PO],[],[],0,56⟩),(.ext 0,⟨[OD],[],[],0,56⟩)],[],[1,15,16,17],[2]⟩
def Gz(s: (Unit×List nY×Int×Int×Unit)×(Yz×Unit)×Unit):LW.R:=
 br (decide (s.1.2.2.2.1<s.1.2.2.1)) (iteP (0<=s.1.2.2.2.1) ((s.1.2.1[s.1.2.2.2.1.toNat]?).bind λx7=>(Fj x7.client 0 2).bind λy8=>br (!y8.1) (some (.inr (.inl ((false,()),(()),(()))))) (br (decide (s.1.2.2.2.1>0)) (iteP (0<=(IntKind.wrap .i64 (s.1.2.2.2.1-1))) ((s.2.1.1.2.1[(IntKind.wrap .i64 (s.1.2.2.2.1-1)).toNat]?).bind λx9=>br (decide (x7.client<=x9.client)) (some (.inr (.inl ((false,()),(()),(()))))) ((Fj x7.seq 1 99).bind λy10=>br (!y10.1) (some (.inr (.inl ((false,()),(()),(()))))) ((Fj x7.result.value 0 9).bind λy11=>br (!y11.1) (some (.inr (.inl ((false,()),(()),(()))))) (some (.inl (((),s.1.2.1,s.1.2.2.1,(IntKind.wrap .i64 (s.1.2.2.2.1+1)),()),s.2.1,(()))))))) none) ((Fj x7.seq 1 99).bind λy12=>br (!y12.1) (some (.inr (.inl ((false,()),(()),(()))))) ((Fj x7.result.value 0 9).bind λy13=>br (!y13.1) (some (.inr (.inl ((false,()),(()),(()))))) (some (.inl (((),s.1.2.1,s.1.2.2.1,(IntKind.wrap .i64 (s.1.2.2.2.1+1)),()),s.2.1,(())))))))) none) (some (.inr (.inr (((),()),(()),(())))))
def Jt:=md Gz
def Ph[dL] :=Ib Tryz.f215 [0] LW Gz [Gf] [] (by kernel_rfl) λs=>by simp only[Gz,tm];kernel_rfl
def GZ(a0:nX):Option (Bool×Unit):=
 br (!((a0.objects.length:Int)==3)) (some (false,())) ((FE a0.objects).bind λy1=>br y1.1 (some (false,())) ((Jt (((),a0.sessions,(a0.sessions.length:Int),0,()),((a0.objects,a0.sessions,()),()),(()))).bind λe14=>Sum.elim (λe14_0=>some e14_0.1) (λ_=>some (true,())) e14))
def MP[dL] :=FB 215 Tryz.f215 V8 [.b] (λx=>GZ x.1) [IE] [Ph] (by kernel_rfl) λx=>by simp only[GZ,tm];kernel_rfl
def Hs(a0:List nY)(a1:Int)(a2:List nY):Option ((List nY)×Unit):=B7 32 a0 a1 a2
section
open Go.RowKit
set_option maxHeartbeats 4000000 in
set_option maxRecDepth 100000 in
theorem Nb(ab:Option Addr)(n c:Nat)(ad:Addr)(vc:Nat)(w w':World)(v:Value)(hnc:n<=c)(hn0:ab=none->n=0)
  (hr: ∀ty,(Builtin.append_ #[65,65] ty #[.slice ab n c,.slice (some ad) 1 vc]).run Tryz.prog w= .ok v w'):
  Calls Tryz.prog 233 #[.slice ab n c,.int .i64 n,.slice (some ad) 1 vc] w λe w1=>e= .returned v/\w1=w':=by
 go_enter Tryz.func233,Tryz.ntmps233
 cases ab with
 |none=>
  obtain rfl:=hn0 rfl
  go_wp2_with (at_builtin;refine Lib.wpList_append_run _ rfl _ _ _ _ rfl _ _ rfl rfl _ _ (hr _) ?_)
  all_goals (go_ret;exact⟨rfl,rfl⟩)
 |some a=>
  obtain⟨b,o,sp⟩:=a
  go_wp2_with (at_builtin;refine Lib.wpList_append_run _ rfl _ _ _ _ rfl _ _ rfl rfl _ _ (hr _) ?_)
  all_goals (go_ret;exact⟨rfl,rfl⟩)
set_option maxHeartbeats 4000000 in
set_option maxRecDepth 100000 in
theorem Ma(b n c i:Nat)(ad:Addr)(vc:Nat)(w W1 W2:World)(u1 u2:Value)(hi:i<n)(hnc:n+1<=c)(hn:n<=2 ^ 40)(hne:ad.block≠b)
  (hA: ∃ra ta fa,w.heap[ad.block]? =some (.cells ra ta fa)/\0<ra.size) (hB: ∃rb tb,w.heap[b]? =some (.cells rb tb (0,0)))
  (hcp1: ∀ty dc sc,(Builtin.copy_ #[65,65] ty #[.slice (some ⟨b,(i+1)*4,none⟩) (n-i) dc,.slice (some ⟨b,i*4,none⟩) (n+1-i) sc]).run Tryz.prog w.drew= .ok u1 W1)
  (hcp2: ∀ty dc,(Builtin.copy_ #[65,65] ty #[.slice (some ⟨b,i*4,none⟩) (n+1-i) dc,.slice (some ad) 1 vc]).run Tryz.prog W1= .ok u2 W2):
  Calls Tryz.prog 233 #[.slice (some ⟨b,0,none⟩) n c,.int .i64 i,.slice (some ad) 1 vc] w λe w1=>e= .returned (.slice (some ⟨b,0,none⟩) (n+1) c)/\w1=W2:=by
 obtain⟨ra,ta,fa,hA1,hA2⟩:=hA;obtain⟨rb,tb,hB1⟩:=hB
 have hov: ∀lb cb,(callFunc 248 #[.slice (some ad) 1 vc,.slice (some ⟨b,(i+1)*4,none⟩) lb cb]).run Tryz.prog w= .ok (.value (.bool false)) w:=λlb cb=>by
  rw[run_callFunc_extern Tryz.func248 (by kernel_rfl) (by kernel_rfl) (by kernel_rfl) (e:=Extern.SlicesOverlaps.overlaps #[65,65] #[4]) (by kernel_rfl),
   A2 w 65 4 160 (by kernel_rfl) (i:=Tryz.t160) (by kernel_rfl) ad ⟨b,(i+1)*4,none⟩ 1 vc lb cb hne hA1 hA2 hB1]
  rfl
 have hz2: ¬ ((i:Int)=(n:Int)):=by omega
 have hw1:IntKind.i64.wrap ((i:Int)+1)=(i:Int)+1:=by rw[IntKind.wrap_i64];omega
 have hw2:IntKind.i64.wrap ((n:Int)+1)=(n:Int)+1:=by rw[IntKind.wrap_i64];omega
 have hb1: (0:Int)<=(i:Int)+1:=by omega
 have hin:i<=n:=by omega
 have htn: ((i:Int)+1).toNat=i+1:=by omega
 have htn2: ((n:Int)+1).toNat=n+1:=by omega
 have hb2: ¬ (c=i+1):=by omega
 have hb3: (i:Int)<=(n:Int)+1:=by omega
 have hb4: ¬ (c=i):=by omega
 have mixed:Tryz.prog.follows .mixedOrders=true:=Ie;clear hA1 hA2 hB1 hne hn
 go_enter Tryz.func233,Tryz.ntmps233
 go_wp2_with (simp only[hov])
 go_region_law_o (refine CP rfl _ _ 65 65 rfl _ _ (by simp[Act.eval,Act.put]) (by simp[Act.eval,Act.put]) (hcp1 _ _ _) ?_)
 go_wp2_with (refine DS _ rfl _ _ 65 65 rfl _ _ rfl rfl (hcp2 _ _) ?_)
 go_ret
 exact⟨rfl,rfl⟩
set_option maxHeartbeats 4000000 in
set_option maxRecDepth 100000 in
theorem Mx(b g n c G i:Nat)(ad:Addr)(vc:Nat)(w W0 W1 W2:World)(u1 u2:Value)(hi:i<n)(hnn:n<=c)(hnc:c<n+1)(hG:n+1<=G)(hn:n<=2 ^ 40)
  (hrz: ∀ty,(Builtin.append_ #[65,3] ty #[.slice (some ⟨b,0,none⟩) i c,.int .i64 ((n:Int)+1-(i:Int))]).run Tryz.prog w= .ok (.slice (some ⟨g,0,none⟩) (n+1) G) W0)
  (hcp1: ∀ty dc,(Builtin.copy_ #[65,65] ty #[.slice (some ⟨g,i*4,none⟩) (n+1-i) dc,.slice (some ad) 1 vc]).run Tryz.prog W0= .ok u1 W1)
  (hcp2: ∀ty dc sc,(Builtin.copy_ #[65,65] ty #[.slice (some ⟨g,(i+1)*4,none⟩) (n-i) dc,.slice (some ⟨b,i*4,none⟩) (n-i) sc]).run Tryz.prog W1.drew= .ok u2 W2):
  Calls Tryz.prog 233 #[.slice (some ⟨b,0,none⟩) n c,.int .i64 i,.slice (some ad) 1 vc] w λe w1=>e= .returned (.slice (some ⟨g,0,none⟩) (n+1) G)/\w1=W2:=by
 have hz2: ¬ ((i:Int)=(n:Int)):=by omega
 have hw1:IntKind.i64.wrap ((i:Int)+1)=(i:Int)+1:=by rw[IntKind.wrap_i64];omega
 have hw2:IntKind.i64.wrap ((n:Int)+1)=(n:Int)+1:=by rw[IntKind.wrap_i64];omega
 have hw3:IntKind.i64.wrap ((n:Int)+1-(i:Int))=(n:Int)+1-(i:Int):=by rw[IntKind.wrap_i64];omega
 have hb1: (0:Int)<=(i:Int)+1:=by omega
 have hin:i<=n:=by omega
 have htn: ((i:Int)+1).toNat=i+1:=by omega
 have hb2: ¬ (G=i+1):=by omega
 have hb3: (i:Int)<=(n:Int)+1:=by omega
 have hb4: ¬ (c=i):=by omega
 have hb5: ¬ (G=i):=by omega
 have hb6: (c:Int)< (n:Int)+1:=by omega
 have mixed:Tryz.prog.follows .mixedOrders=true:=Ie;clear hn
 go_enter Tryz.func233,Tryz.ntmps233
 go_wp2_with (first
  | (at_builtin;refine Lib.wpList_append_run _ rfl _ _ _ _ rfl _ _ rfl rfl _ _ (hrz _) ?_)
  | (refine DS _ rfl _ _ 65 65 rfl _ _ rfl rfl (hcp1 _ _) ?_))
 go_region_law_o (refine CP rfl _ _ 65 65 rfl _ _ (by simp[Act.eval,Act.put]) (by simp[Act.eval,Act.put]) (hcp2 _ _ _) ?_)
 go_wp2
 go_ret
 exact⟨rfl,rfl⟩
theorem Nu:vy Tryz.prog 233 65 160 3 4 Tryz.t160 (.agg #[.int .i64 0,.int .i64 0,.bool false,.int .i64 0]) where
 enter:=CW Tryz.func233 (by kernel_rfl) rfl
 ht:=by kernel_rfl
 hi:=by kernel_rfl
 hz:=by kernel_rfl
 zs:=by kernel_rfl
 z1:=by decide
 hs:=by kernel_rfl
 pos:=by decide
 htn:=by kernel_rfl
 toEnd:=λab n c ad vc w w' v h1 h2 _ h4=>Nb ab n c ad vc w w' v h1 h2 h4
 shift:=Ma
 grow:=Mx
end
def N0[dL] :=D5 Nu (.st .session) rfl rfl 32 (by kernel_rfl) (by decide)
abbrev PP:LX:=⟨⟨[PK,OT,Wa,UI,QA,Wb,PL],[Wi,UO,UP,UQ,UP],UR,0,120⟩,[(.ext 1,⟨[PK,OT,Wa,UI,QA,Wb,PL],[Wi,UO,UP,UQ,UP],UR,0,120⟩)],[],[3,4,5,7,9,11,12],[3,4,5,7,9,11,12]⟩
def Nd(s:Zc×(Zd×TL×YA×TL×YA×Unit)×List Int×List nY×Unit):PP.R:=
 br (decide (s.1.2.2.2.2.2.2.1< (s.2.2.2.1.length:Int))) (iteP (0<=s.1.2.2.2.2.2.2.1/\s.1.2.2.2.2.2.2.1< (s.2.2.2.1.length:Int)) ((s.2.2.2.1[s.1.2.2.2.2.2.2.1.toNat]?).bind λx22=>br (decide (x22.client<s.2.1.1.1)) (some (.inl (((),(),(),(),s.1.2.2.2.2.1,(),(IntKind.wrap .i64 (s.1.2.2.2.2.2.2.1+1)),()),s.2))) (some (.inr s))) none) (some (.inr s))
def Np:=md Nd
def TR[dL] :=Ib Tryz.f214 [0] PP Nd [] [] (by kernel_rfl) λs=>by simp only[Nd,tm];kernel_rfl
def MA(a0:nX)(a1:Op):Option (nX×Result×Bool×Unit):=
 (I4 a0).bind λy1=>(KQ a0 a1.client).bind λy2=>(GZ a0).bind λy3=>br (!y3.1) (some (y1.1,(⟨false,0⟩:Result),false,())) ((Iw a1).bind λy4=>br (!y4.1) (some (y1.1,(⟨false,0⟩:Result),false,())) (let j54:Option (nX×Result×Bool×Unit):=iteP (0<=a1.object) ((a0.objects[a1.object.toNat]?).bind λx5=>br (a1.kind==1) (iteP (0<=a1.object/\a1.object< (y1.1.objects.length:Int)) ((y1.1.objects[a1.object.toNat]?).bind λ_=>(Np (((),(),(),(),y2.2.1,(),0,()),((a1.client,a1.seq,a1.kind,a1.object,a1.old,a1.value,()),((),(),()),(false,0,()),((),(),()),(true,x5,()),()),(y1.1.objects.set a1.object.toNat a1.value),y1.1.sessions,())).bind λe23=>let j28 (p25:List nY):Option (nX×Result×Bool×Unit):=iteP (0<=e23.1.2.2.2.2.2.2.1/\e23.1.2.2.2.2.2.2.1< (p25.length:Int)) ((p25[e23.1.2.2.2.2.2.2.1.toNat]?).bind λ_=>some ((⟨e23.2.2.1,(p25.set e23.1.2.2.2.2.2.2.1.toNat (⟨e23.2.1.1.1,e23.2.1.1.2.1,(⟨e23.2.1.2.2.2.2.1.1,e23.2.1.2.2.2.2.1.2.1⟩:Result)⟩:nY))⟩:nX),(⟨e23.2.1.2.2.2.2.1.1,e23.2.1.2.2.2.2.1.2.1⟩:Result),true,())) none;br (!e23.1.2.2.2.2.1) ((Hs e23.2.2.2.1 e23.1.2.2.2.2.2.2.1 ([(⟨0,0,(⟨false,0⟩:Result)⟩:nY)]:List nY)).bind λy24=>j28 y24.1) (j28 e23.2.2.2.1)) none) (let j53 (p31:List Int):Option (nX×Result×Bool×Unit):=(Np (((),(),(),(),y2.2.1,(),0,()),((a1.client,a1.seq,a1.kind,a1.object,a1.old,a1.value,()),((),(),()),(false,0,()),((),(),()),((x5==a1.old),x5,()),()),p31,y1.1.sessions,())).bind λe47=>let j52 (p49:List nY):Option (nX×Result×Bool×Unit):=iteP (0<=e47.1.2.2.2.2.2.2.1/\e47.1.2.2.2.2.2.2.1< (p49.length:Int)) ((p49[e47.1.2.2.2.2.2.2.1.toNat]?).bind λ_=>some ((⟨e47.2.2.1,(p49.set e47.1.2.2.2.2.2.2.1.toNat (⟨e47.2.1.1.1,e47.2.1.1.2.1,(⟨e47.2.1.2.2.2.2.1.1,e47.2.1.2.2.2.2.1.2.1⟩:Result)⟩:nY))⟩:nX),(⟨e47.2.1.2.2.2.2.1.1,e47.2.1.2.2.2.2.1.2.1⟩:Result),true,())) none;br (!e47.1.2.2.2.2.1) ((Hs e47.2.2.2.1 e47.1.2.2.2.2.2.2.1 ([(⟨0,0,(⟨false,0⟩:Result)⟩:nY)]:List nY)).bind λy48=>j52 y48.1) (j52 e47.2.2.2.1);br (x5==a1.old) (iteP (0<=a1.object/\a1.object< (y1.1.objects.length:Int)) ((y1.1.objects[a1.object.toNat]?).bind λ_=>j53 (y1.1.objects.set a1.object.toNat a1.value)) none) (j53 y1.1.objects))) none;br y2.2.1 (br (decide (y2.1.seq>a1.seq)) (some (y1.1,(⟨false,0⟩:Result),false,())) (br y2.2.1 (br (y2.1.seq==a1.seq) (some (y1.1,y2.1.result,true,())) (j54)) (j54))) (br y2.2.1 (br (y2.1.seq==a1.seq) (some (y1.1,y2.1.result,true,())) (j54)) (j54))))
def WC[dL] :=FB 214 Tryz.f214 YU Zj (λx=>MA x.1 x.2.1) [Sa,Um,MP,Qp,N0] [TR] (by kernel_rfl) λx=>by simp only[MA,tm];kernel_rfl
abbrev OU:LX:=⟨⟨[N7,OT,(12,.cl (.ro (.st .entry))),(13,.cl (.int .i64)),(14,.cl (.int .i64))],[UO,UQ],UR,0,28⟩,[(.ext 0,⟨[N7,OT],[UO,UQ],UR,0,28⟩)],[],[2,4,12,13,14],[2,4]⟩
def Ih(s: (Unit×Unit×List sf×Int×Int×Unit)×(TL×TL×Unit)×List Int×List nY×Unit):OU.R:=
 br (decide (s.1.2.2.2.2.1<s.1.2.2.2.1)) (iteP (0<=s.1.2.2.2.2.1) ((s.1.2.2.1[s.1.2.2.2.2.1.toNat]?).bind λx8=>(MA (⟨s.2.2.1,s.2.2.2.1⟩:nX) x8.op).bind λy9=>some (.inl (((),(),s.1.2.2.1,s.1.2.2.2.1,(IntKind.wrap .i64 (s.1.2.2.2.2.1+1)),()),(((),(),()),((),(),()),()),y9.1.objects,y9.1.sessions,()))) none) (some (.inr (((),(),()),s.2)))
def OM:=md Ih
def Ss[dL] :=Ib Tryz.f178 [0] OU Ih [WC] [] (by kernel_rfl) λs=>by simp only[Ih,tm];kernel_rfl
def KP(a0:List sf):Option (nX×Bool×Unit):=
 (Lj a0).bind λy1=>br (!y1.1) (some ((⟨([]:List Int),([]:List nY)⟩:nX),false,())) ((JP).bind λy2=>(OM (((),(),a0,(a0.length:Int),0,()),(((),(),()),((),(),()),()),y2.1.objects,y2.1.sessions,())).bind λe10=>some ((⟨e10.2.2.1,e10.2.2.2.1⟩:nX),true,()))
def Uk[dL] :=FB 178 Tryz.f178 Qf [.st .machine,.b] (λx=>KP x.1) [Td,Te] [Ss] (by kernel_rfl) λx=>by simp only[KP,tm];kernel_rfl
def JQ(a0:nX)(a1:Int):Option (Int×Bool×Unit):=
 (GZ a0).bind λy1=>br (!y1.1) (some (0,false,())) ((Fj a1 0 2).bind λy2=>br (!y2.1) (some (0,false,())) (iteP (0<=a1) ((a0.objects[a1.toNat]?).bind λx3=>some (x3,true,())) none))
def Tf[dL] :=FB 179 Tryz.f179 V9 [.i .i64,.b] (λx=>JQ x.1 x.2.1) [MP,Gf] [] (by kernel_rfl) λx=>by simp only[JQ,tm];kernel_rfl
def Kj(a0:qQ)(a1:Int):Option (xB×Unit):=
 (H3 a0).bind λy1=>(KP y1.1).bind λy2=>(JQ y2.1 a1).bind λy3=>some ((⟨0,(⟨true,y3.1⟩:Result),a0.commit⟩:xB),())
def Rf[dL] :=FB 107 Tryz.f107 TJ WP (λx=>Kj x.1 x.2.1) [QI,Uk,Tf] [] (by kernel_rfl) λx=>by simp only[Kj,tm];kernel_rfl
def KO(a0:qN)(a1:Int)(a2:Int):Option (xB×Unit):=
 (MC a0 a1).bind λy1=>br (!(y1.1==0)) (some ((⟨y1.1,(⟨false,0⟩:Result),0⟩:xB),())) ((Fj a2 0 2).bind λy2=>br (!y2.1) (some ((⟨1,(⟨false,0⟩:Result),0⟩:xB),())) ((GR a0 a1).bind λy3=>br (!y3.1) (some ((⟨3,(⟨false,0⟩:Result),0⟩:xB),())) ((GC a0 a1).bind λy4=>br (!y4.1) (some ((⟨7,(⟨false,0⟩:Result),0⟩:xB),())) (iteP (0<=a1) ((a0.servers[a1.toNat]?).bind λx5=>(Kj x5 a2).bind λy6=>some (y6.1,())) none))))
def Uj[dL] :=FB 35 Tryz.f35 RG WP (λx=>KO x.1 x.2.1 x.2.2.1) [Up,Gf,OJ,MO,Rf] [] (by kernel_rfl) λx=>by simp only[KO,tm];kernel_rfl
def HM[dL](a0:Hd):Option (qN×Int×Int×Int×Unit):=
 (Q5 a0).bind λy1=>(MH y1.1).bind λy2=>iteP (y2.1.length=y1.1.length) ((Fh y2.1 6).bind λy3=>iteP (y3.1.length=y2.1.length) ((Fh y3.1 5).bind λy4=>iteP (y4.1.length=y3.1.length) ((Fh y4.1 6).bind λy5=>iteP (y5.1.length=y4.1.length) (some (y2.2.1,y3.2.1,(IntKind.wrap .i64 (y4.2.1-1)),(IntKind.wrap .i64 (y5.2.1-1)),())) none) none) none) none
def P5[dL] :=FB 41 Tryz.f41 [.ty (.h)] [.st .cluster,.i .i64,.i .i64,.i .i64] (λx=>HM x.1) [V3,Uy,FQ] [] (by kernel_rfl) λx=>by simp only[HM,tm,-eq_self];kernel_rfl
def KS(a0:qQ)(a1:Int):Option (Bool×Unit):=
 (Hk a0.config.replicas a1).bind λy1=>some (y1.1,())
def Uo[dL] :=FB 118 Tryz.f118 TJ [.b] (λx=>KS x.1 x.2.1) [Md] [] (by kernel_rfl) λx=>by simp only[KS,tm];kernel_rfl
def JO(a0:qN)(a1:Int)(a2:Int)(a3:Int):Option (xB×Unit):=
 (MC a0 a1).bind λy1=>br (!(y1.1==0)) (some ((⟨y1.1,(⟨false,0⟩:Result),0⟩:xB),())) ((Fj a2 0 2).bind λy2=>br (!y2.1) (some ((⟨1,(⟨false,0⟩:Result),0⟩:xB),())) ((Fj a3 0 16).bind λy3=>br (!y3.1) (some ((⟨1,(⟨false,0⟩:Result),0⟩:xB),())) (iteP (0<=a1) ((a0.servers[a1.toNat]?).bind λx4=>(KS x4 a1).bind λy5=>br (!y5.1) (some ((⟨3,(⟨false,0⟩:Result),0⟩:xB),())) (iteP (0<=a1) ((a0.servers[a1.toNat]?).bind λx6=>br (decide (x6.commit<a3)) (some ((⟨11,(⟨false,0⟩:Result),0⟩:xB),())) (iteP (0<=a1) ((a0.servers[a1.toNat]?).bind λx7=>(Kj x7 a2).bind λy8=>some (y8.1,())) none)) none)) none)))
def Tb[dL] :=FB 42 Tryz.f42 XB WP (λx=>JO x.1 x.2.1 x.2.2.1 x.2.2.2.1) [Up,Gf,Uo,Rf] [] (by kernel_rfl) λx=>by simp only[JO,tm];kernel_rfl
def JR(a0:qN)(a1:Int)(a2:Int)(a3:Int):Option (xB×Unit):=
 (Ho a0 a1).bind λy1=>br (!(y1.1==0)) (some ((⟨y1.1,(⟨false,0⟩:Result),0⟩:xB),())) (iteP (0<=a1) ((a0.servers[a1.toNat]?).bind λx2=>(GD x2.config a1).bind λy3=>(Fi a2 0 2).bind λy4=>br (!y4.1) (some ((⟨1,(⟨false,0⟩:Result),0⟩:xB),())) ((Fi a3 0 16).bind λy5=>br (!y5.1) (some ((⟨1,(⟨false,0⟩:Result),0⟩:xB),())) (br (!(y3.1==1)) (br (!(y3.1==2)) (some ((⟨3,(⟨false,0⟩:Result),0⟩:xB),())) (br (decide (x2.commit<a3)) (some ((⟨11,(⟨false,0⟩:Result),0⟩:xB),())) ((H0 x2 a2).bind λy7=>some (y7.1,())))) (br (decide (x2.commit<a3)) (some ((⟨11,(⟨false,0⟩:Result),0⟩:xB),())) ((H0 x2 a2).bind λy8=>some (y8.1,())))))) none)
def Th[dL] :=FB 43 Tryz.f43 XB WP (λx=>JR x.1 x.2.1 x.2.2.1 x.2.2.2.1) [NY,LN,FF,Rv] [] (by kernel_rfl) λx=>by simp only[JR,tm];kernel_rfl
def Oy[dL](a0:Hd):Option (Bool×Unit):=
 (Xd a0).bind λy1=>br y1.1 (some (true,())) ((H5 a0).bind λy2=>(KO y2.1 y2.2.1 y2.2.2.1).bind λy3=>(HT y2.1 y2.2.1 y2.2.2.1).bind λy4=>br (!((y3.1.code==y4.1.code)&&((y3.1.result.done==y4.1.result.done)&&((y3.1.result.value==y4.1.result.value)&&((y3.1.index==y4.1.index)&&true))))) (some (false,())) ((GC y2.1 y2.2.1).bind λy5=>(F5 y2.1 y2.2.1).bind λy6=>br (!(y5.1==y6.1)) (some (false,())) (let j20:Option (Bool×Unit):=(HM a0).bind λy17=>(JO y17.1 y17.2.1 y17.2.2.1 y17.2.2.2.1).bind λy18=>(JR y17.1 y17.2.1 y17.2.2.1 y17.2.2.2.1).bind λy19=>br ((y18.1.code==y19.1.code)&&((y18.1.result.done==y19.1.result.done)&&((y18.1.result.value==y19.1.result.value)&&((y18.1.index==y19.1.index)&&true)))) (br (!(y18.1.code==0)) (some (true,())) (some ((decide (y18.1.index≥y17.2.2.2.1)),()))) (some (false,()));br (y3.1.code==0) (iteP (0<=y2.2.1/\y2.2.1< (y2.1.servers.length:Int)) ((y2.1.servers[y2.2.1.toNat]?).bind λx7=>(y2.1.servers[y2.2.1.toNat]?).bind λx8=>iteP (0+x7.config.replicas.length<=x8.config.replicas.length) ((y2.1.servers[y2.2.1.toNat]?).bind λx9=>iteP (0+x7.config.witnesses.length<=x9.config.witnesses.length) ((y2.1.servers[y2.2.1.toNat]?).bind λx10=>iteP (0+x7.log.length<=x10.log.length) ((y2.1.servers[y2.2.1.toNat]?).bind λx11=>iteP (0+x7.learned.length<=x11.learned.length) ((Fs (⟨x7.up,x7.intact,x7.version,x7.epoch,(⟨x7.config.epoch,x7.config.primary,((x8.config.replicas.drop 0).take x7.config.replicas.length),((x9.config.witnesses.drop 0).take x7.config.witnesses.length)⟩:om),x7.first,((x10.log.drop 0).take x7.log.length),x7.commit,((x11.learned.drop 0).take x7.learned.length)⟩:qQ)).bind λy12=>(Gt y12.1).bind λy13=>(GC y2.1 y2.2.1).bind λy14=>br (!y14.1) (some (false,())) (iteP (0<=y2.2.2.1/\y2.2.2.1< (y13.1.objects.length:Int)) ((y13.1.objects[y2.2.2.1.toNat]?).bind λx15=>br (!(x15==y3.1.result.value)) (some (false,())) (iteP (0<=y2.2.1/\y2.2.1< (y2.1.servers.length:Int)) ((y2.1.servers[y2.2.1.toNat]?).bind λx16=>br (!(y3.1.index==x16.commit)) (some (false,())) (j20)) none)) none)) none) none) none) none) none) (j20))))
def WL[dL] :=FB 5 Tryz.f5 [.ty (.h)] [.b] (λx=>Oy x.1) [Z5,QL,Uj,Qt,MO,MR,H9,Me,P5,Tb,Th] [] (by kernel_rfl) λx=>by simp only[Oy,tm];kernel_rfl
end
end Go.Proofs.YtkghndikalnipabGreat.En
