/- Printed by a program: the walk. -/
import Derived.Test.YtkghndikalnipaaGreatZTh
set_option linter.unusedSimpArgs false
set_option linter.unusedVariables false
namespace Go.Proofs.YtkghndikalnipaaGreat.En
open Go.IntKind renaming wrap→aeq
open Go
abbrev D4:=@Int.toNat_natCast
abbrev D5:=@Int.natCast_nonneg
abbrev D6:=@List.getElem_mem
abbrev D7:=@Int.ofNat_lt
abbrev D8:=@List.length_set
abbrev D9:=@List.take_length
abbrev Ea:=@List.getElem?_set_self
abbrev Eb:=@Int.lt_irrefl
abbrev Ec:=@List.pairwise_iff_getElem
abbrev Ed:=@List.getElem?_set_ne
abbrev Ee:=@List.take_add_one
abbrev Ef:=@Nat.le_succ_of_le
abbrev Eg:=@Sum.elim_inl
abbrev Eh:=@List.filter_append
abbrev Ei:=@List.pairwise_append
abbrev Ej:=@Nat.not_lt_zero
abbrev Ek:=@Sum.elim_inr
abbrev El:=@Bool.not_false
abbrev Em:=@List.pairwise_cons
abbrev Eo:=@Nat.le_of_eq
abbrev Ep:=@Nat.sub_zero
abbrev Er:=@List.pairwise_singleton
abbrev Es:=@List.flatten_append
abbrev Et:=@List.mem_filter
abbrev Eu:=@List.getElem_take
abbrev Ew:=@Bool.and_false
abbrev Ey:=@Int.toNat_zero
abbrev Ez:=@List.length_filter_le
abbrev EA:=@Bool.and_self
abbrev EB:=@Int.toNat_of_nonneg
abbrev EC:=@Bool.false_and
noncomputable section
abbrev JJ:List Ty:=[.i .i64]
abbrev K4:List Ty:=[.ls (.i .i64)]
abbrev OE:List Ty:=[.st .cluster,.i .i64]
abbrev UC:List Ty:=[.st .cluster]
abbrev Vt:List Ty:=[.ls (.st .entry)]
abbrev Yr:List Ty:=[.st .config,.b]
abbrev ZG:List Ty:=[.ls (.st .entry),.b]
abbrev abO:List Ty:=[.st .server]
abbrev abP:List Ty:=[.st .config]
abbrev abQ:List Ty:=[.st .masterLog]
abbrev Y4:List Ty:=[.st .cluster,.b]
abbrev Y5:List Ty:=[.st .masterLog,.b]
abbrev Y6:List Ty:=[.st .server,.b]
abbrev aaO:List Ty:=[.i .i64,.ls (.st .entry)]
abbrev acU:List Ty:=[.st .cluster,.st .reply]
abbrev acV:List Ty:=[.st .cluster,.st .config]
abbrev Kl:List j6:=[.ty (.st .cluster),.ty (.i .i64)]
abbrev RU:List j6:=[.ty (.ls (.st .entry))]
abbrev Ss:List j6:=[.ty (.st .cluster)]
abbrev Su:List j6:=[.ty (.st .cluster),.ty (.i .i64),.ty (.i .i64)]
abbrev Vq:List j6:=[.ty (.ls (.i .i64)),.ty (.ls (.i .i64))]
abbrev Vr:List j6:=[.ty (.st .server),.ty (.i .i64)]
abbrev WG:List j6:=[.ty (.i .i64)]
abbrev Xu:List j6:=[.ty (.st .masterLog)]
abbrev Yp:List j6:=[.ty (.ls (.i .i64))]
abbrev Yq:List j6:=[.ty (.st .config)]
abbrev VV:List j6:=[.ty (.st .server)]
abbrev Xr:List j6:=[.ty (.ls (.i .i64)),.ty (.i .i64)]
abbrev Xt:List j6:=[.ty (.st .op)]
abbrev YV:List j6:=[.ty (.st .lease)]
abbrev YW:List j6:=[.ty (.st .masterLog),.ty (.i .i64)]
abbrev YX:List j6:=[.ty (.ls (.st .entry)),.ty (.ls (.st .entry))]
abbrev aax:List j6:=[.ty (.i .i64),.ty (.i .i64),.ty (.i .i64)]
abbrev aay:List j6:=[.ty (.ls (.st .place))]
abbrev aaz:List j6:=[.ty (.ls (.i .i64)),.ty (.i .i64),.ty (.i .i64)]
abbrev aaA:List j6:=[.ty (.ls (.st .entry)),.ty (.i .i64)]
abbrev acj:List j6:=[.ty (.st .config),.ty (.st .config)]
abbrev acl:List j6:=[.ty (.st .config),.ty (.i .i64)]
abbrev acm:List j6:=[.ty (.ls (.st .entry)),.ty (.i .i64),.ty (.i .i64)]
abbrev acn:List j6:=[.ty (.st .machine),.ty (.i .i64)]
abbrev aco:List j6:=[.ty (.st .cluster),.ty (.i .i64),.ty (.st .op)]
abbrev acp:List j6:=[.ty (.st .lease),.ty (.i .i64)]
abbrev acq:List j6:=[.ty (.st .masterLog),.ty (.st .config)]
abbrev acr:List j6:=[.ty (.st .cluster),.ty (.st .config)]
abbrev acs:List j6:=[.ty (.i .i64),.ty (.ls (.st .entry))]
abbrev acu:List j6:=[.ty (.ls (.st .entry)),.ty (.i .i64),.ty (.ls (.st .entry))]
abbrev acv:List j6:=[.ty (.st .server),.ty (.st .config),.ty (.i .i64),.ty (.ls (.st .entry))]
abbrev acw:List j6:=[.ty (.st .cluster),.ty (.i .i64),.ty (.i .i64),.ty (.i .i64)]
abbrev acx:List j6:=[.ty (.st .cluster),.ty (.st .event)]
abbrev acy:List j6:=[.ty (.i .i64),.ty (.i .i64)]
abbrev acz:List j6:=[.ty (.ls (.i .i64)),.fc 234]
abbrev acA:List j6:=[.ty (.ls (.st .place)),.fc 236]
abbrev acB:List j6:=[.ty (.i .i64),.pr (.st .cluster)]
abbrev acC:List j6:=[.ty (.ls (.st .entry)),.fc 206]
abbrev LL:Type:=(Int×Unit×Unit×Unit×Int×Int×Int×Int×Int×Unit×Unit)
abbrev Nn:Type:=(Int×List qk×List Int×List nG×Int×Int×Int×Int×Int×List uQ×Unit)
abbrev Sv:Type:=(Int×Int×Unit×Unit×Unit)
abbrev UB:Type:=(Unit×Int×Unit)
abbrev ZF:Type:=(Unit×Unit×Int×Unit)
abbrev aaN:Type:=(Unit×Unit×Unit)
abbrev abN:Type:=(Unit×Unit×Unit×Int×Unit)
abbrev ado:Type:=(List nG×Int×Unit)
abbrev adp:Type:=(List Int×List Int×Unit×Int×Unit)
abbrev adq:Type:=(List Int×List nu×Unit)
abbrev aaK:Type:=(Int×Unit×Unit×Unit×Bool×Int×Unit)
abbrev aaL:Type:=(Bool×Bool×Int×Int×Int×Int×List Int×List Int×Int×List rp×Int×List rp×Unit)
abbrev aaM:Type:=(Unit×Unit×Unit×Unit×Unit×Unit×Int×Unit)
abbrev acI:Type:=(Int×Unit×List Int×List nG×Int×Int×Int×Int×Int×List uQ×Unit)
abbrev acJ:Type:=(List Int×Int×Unit)
abbrev acK:Type:=(List Int×Int×Int×Unit)
abbrev acL:Type:=(List rp×Int×Unit)
abbrev acM:Type:=(List Int×List Int×Int×Unit)
abbrev acN:Type:=(List Int×Unit×Int×Unit)
abbrev acO:Type:=(Unit×Int×Unit×Int×Unit)
abbrev acP:Type:=(List rp×List rp×Int×Unit)
abbrev acQ:Type:=(List rp×Unit×Int×Int×Unit)
abbrev acR:Type:=(List Int×List Int×Int×Int×Unit)
abbrev acS:Type:=(List rp×List rp×Int×Int×Unit)
abbrev acT:Type:=(Int×Unit×Unit×Unit×Bool×Unit×Int×Int×Unit)
abbrev KG:Nat×lY:=(1,.cl (.int .i64))
abbrev LD:Nat×lY:=(1,.cl (.ptr 0 0))
abbrev Mc:Nat×lY:=(2,.cl (.ptr 0 0))
abbrev Nm:Nat×lY:=(5,.cl (.int .i64))
abbrev Of:Nat×lY:=(4,.cl (.int .i64))
abbrev OC:Nat×lY:=(3,.cl (.int .i64))
abbrev OD:Nat×lY:=(0,.cl (.ro (.i .i64)))
abbrev PN:Nat×lY:=(7,.cl (.int .i64))
abbrev PO:Nat×lY:=(6,.cl (.ptr 1 0))
abbrev Qk:Nat×lY:=(0,.cl (.ro (.st .entry)))
abbrev NY:Nat×lY:=(2,.cl (.dead))
abbrev NZ:Nat×lY:=(5,.cl (.own 0 (.i .i64)))
abbrev Om:Nat×lY:=(6,.cl (.int .i64))
abbrev Oo:Nat×lY:=(4,.cl (.dead))
abbrev O3:Nat×lY:=(2,.cl (.bl))
abbrev O4:Nat×lY:=(2,.cl (.ptr 1 0))
abbrev PE:Nat×lY:=(8,.cl (.int .i64))
abbrev Qg:Nat×lY:=(4,.cl (.ptr 1 0))
abbrev Qh:Nat×lY:=(4,.cl (.ptr 0 0))
abbrev Qi:Nat×lY:=(12,.cl (.int .i64))
abbrev Qj:Nat×lY:=(0,.cl (.own 0 (.i .i64)))
abbrev QX:Nat×lY:=(1,.cl (.ro (.i .i64)))
abbrev QY:Nat×lY:=(2,.cl (.int .i64))
abbrev QZ:Nat×lY:=(9,.cl (.bl))
abbrev RV:Nat×lY:=(8,.cl (.bl))
abbrev SY:Nat×lY:=(0,.cl (.ro (.st .place)))
abbrev SZ:Nat×lY:=(3,.cl (.ptr 1 0))
abbrev S4:Nat×lY:=(4,.cl (.bl))
abbrev S6:Nat×lY:=(3,.cl (.ptr 0 0))
abbrev S7:Nat×lY:=(4,.cl (.ptr 2 0))
abbrev S8:Nat×lY:=(5,.cl (.ptr 3 0))
abbrev S9:Nat×lY:=(7,.cl (.own 0 (.st .entry)))
abbrev Ux:Nat×lY:=(0,.cl (.pt 0 3))
abbrev Uy:Nat×lY:=(11,.cl (.int .i64))
abbrev Uz:Nat×lY:=(10,.cl (.int .i64))
abbrev UA:Nat×lY:=(9,.cl (.own 1 (.i .i64)))
abbrev VW:Nat×lY:=(3,.cl (.own 0 (.i .i64)))
abbrev VX:Nat×lY:=(6,.cl (.own 0 (.st .entry)))
abbrev VY:Nat×lY:=(6,.cl (.ptr 2 0))
abbrev Xv:Nat×lY:=(3,.cl (.ptr 2 0))
abbrev Xw:Nat×lY:=(7,.cl (.own 0 (.i .i64)))
abbrev Xx:Nat×lY:=(7,.cl (.bl))
abbrev YY:Nat×lY:=(6,.cl (.own 0 (.i .i64)))
abbrev YZ:Nat×lY:=(8,.cl (.own 0 (.i .i64)))
abbrev Y0:Nat×lY:=(3,.cl (.str))
abbrev Y1:Nat×lY:=(3,.cl (.own 1 (.i .i64)))
abbrev Y2:Nat×lY:=(3,.cl (.own 1 (.st .entry)))
abbrev Y3:Nat×lY:=(8,.cl (.own 0 (.st .entry)))
abbrev aaB:Nat×lY:=(6,.cl (.dead))
abbrev aaC:Nat×lY:=(7,.cl (.ptr 3 0))
abbrev aaD:Nat×lY:=(9,.cl (.own 0 (.i .i64)))
abbrev aaE:Nat×lY:=(1,.cl (.ro (.st .entry)))
abbrev aaF:Nat×lY:=(8,.cl (.ptr 1 0))
abbrev aaG:Nat×lY:=(13,.cl (.int .i64))
abbrev aaH:Nat×lY:=(33,.cl (.own 1 (.i .i64)))
abbrev aaI:Nat×lY:=(34,.cl (.int .i64))
abbrev aaJ:Nat×lY:=(35,.cl (.int .i64))
abbrev acD:Nat×lY:=(3,.cl (.own 1 (.st .place)))
abbrev acE:Nat×lY:=(5,.cl (.own 1 (.st .event)))
abbrev acF:Nat×lY:=(11,.cl (.own 1 (.i .i64)))
abbrev acG:Nat×lY:=(10,.cl (.own 0 (.i .i64)))
abbrev acH:Nat×lY:=(7,.cl (.own 0 (.st .reply)))
abbrev Jl:List Ty:=[.i .i64]
abbrev Xy:List Ty:=[.i .i64,.st .server,.i .i64,.st .config,.st .place]
abbrev Yw:List Ty:=[.st .server,.i .i64,.st .config,.st .place]
abbrev Yx:List Ty:=[.st .entry,.i .i64,.st .server,.i .i64,.st .config,.st .place,.i .i64,.i .i64]
abbrev ZJ:List Ty:=[.st .entry,.i .i64,.i .i64]
abbrev abR:List Ty:=[.st .config]
abbrev abT:List Ty:=[.st .server]
abbrev abU:List Ty:=[.i .i64,.st .session]
abbrev abV:List Ty:=[.st .entry]
abbrev abW:List Ty:=[.st .cur,.i .i64]
abbrev Zb:List Ty:=[.st .cur,.st .entry]
abbrev aaU:List Ty:=[.i .i64,.i .i64]
abbrev aaV:List Ty:=[.i .i64,.i .i64,.i .i64]
abbrev ac0:List Ty:=[.st .server,.i .i64,.st .place]
abbrev ac1:List Ty:=[.i .i64,.i .i64,.i .i64,.i .i64]
abbrev ac2:List Ty:=[.st .reply,.st .server,.i .i64,.st .config,.st .place]
abbrev JZ:List Sh:=[.int .i64,.ro (.st .server),.ro (.i .i64),.ro (.st .config),.int .i64,.int .i64,.int .i64,.int .i64,.int .i64,.ro (.st .place)]
abbrev K5:List Sh:=[.int .i64,.em,.em,.em,.int .i64,.int .i64,.int .i64,.int .i64,.int .i64,.em]
abbrev Vu:List Sh:=[.int .i64,.own 1 (.st .server),.own 2 (.i .i64),.own 3 (.st .config),.int .i64,.int .i64,.int .i64,.int .i64,.int .i64,.own 4 (.st .place)]
abbrev Vv:List Sh:=[.int .i64,.own 2 (.st .server),.own 3 (.i .i64),.own 4 (.st .config),.int .i64,.int .i64,.int .i64,.int .i64,.int .i64,.own 5 (.st .place)]
abbrev WH:List Sh:=[.int .i64,.own 0 (.st .server),.own 1 (.i .i64),.own 2 (.st .config),.int .i64,.int .i64,.int .i64,.int .i64,.int .i64,.own 3 (.st .place)]
abbrev Yt:List Sh:=[.ro (.st .config),.int .i64]
abbrev Yu:List Sh:=[.ro (.i .i64),.ro (.st .session)]
abbrev Yv:List Sh:=[.int .i64,.int .i64,.own 6 (.i .i64),.own 7 (.i .i64)]
abbrev ZH:List Sh:=[.em,.int .i64]
abbrev ZI:List Sh:=[.int .i64,.int .i64,.own 1 (.i .i64),.own 2 (.i .i64)]
abbrev Y7:List Sh:=[.own 0 (.st .config),.int .i64]
abbrev Y8:List Sh:=[.int .i64,.own 0 (.st .server),.ro (.i .i64),.ro (.st .config),.int .i64,.int .i64,.int .i64,.int .i64,.int .i64,.ro (.st .place)]
abbrev Y9:List Sh:=[.bl,.int .i64]
abbrev Za:List Sh:=[.own 0 (.i .i64),.own 1 (.st .session)]
abbrev aaP:List Sh:=[.int .i64,.int .i64,.bl,.int .i64]
abbrev aaQ:List Sh:=[.int .i64,.int .i64,.own 2 (.i .i64),.own 3 (.i .i64)]
abbrev aaR:List Sh:=[.bl,.bl,.int .i64,.int .i64,.int .i64,.int .i64,.ro (.i .i64),.ro (.i .i64),.int .i64,.ro (.st .entry),.int .i64,.ro (.st .entry)]
abbrev aaS:List Sh:=[.int .i64,.int .i64,.own 0 (.i .i64),.own 1 (.i .i64)]
abbrev aaT:List Sh:=[.int .i64,.int .i64,.own 2 (.i .i64),.own 1 (.i .i64)]
abbrev acW:List Sh:=[.int .i64,.own 0 (.st .server),.own 1 (.i .i64),.em,.int .i64,.int .i64,.int .i64,.int .i64,.int .i64,.own 2 (.st .place)]
abbrev acX:List Sh:=[.int .i64,.int .i64,.int .i64,.int .i64,.int .i64,.int .i64]
abbrev acY:List Sh:=[.int .i64,.int .i64,.em,.em]
abbrev acZ:List Sh:=[.own 1 (.st .config),.int .i64]
def sb0:ByteArray:=⟨⟨[0,1,2,2,3,3,3,3,4,4,4,4,4,4,4,4,5,5,5,5,5,5,5,5,5,5,5,5,5,5,5,5,6,6,6,6,6,6,6,6,6,6,6,6,6,6,6,6,6,6,6,6,6,6,6,6,6,6,6,6,6,6,6,6,7,7,7,7,7,7,7,7,7,7,7,7,7,7,7,7,7,7,7,7,7,7,7,7,7,7,7,7,7,7,7,7,7,7,7,7,7,7,7,7,7,7,7,7,7,7,7,7,7,7,7,7,7,7,7,7,7,7,7,7,7,7,7,7,8,8,8,8,8,8,8,8,8,8,8,8,8,8,8,8,8,8,8,8,8,8,8,8,8,8,8,8,8,8,8,8,8,8,8,8,8,8,8,8,8,8,8,8,8,8,8,8,8,8,8,8,8,8,8,8,8,8,8,8,8,8,8,8,8,8,8,8,8,8,8,8,8,8,8,8,8,8,8,8,8,8,8,8,8,8,8,8,8,8,8,8,8,8,8,8,8,8,8,8,8,8,8,8,8,8,8,8,8,8,8,8,8,8,8,8,8,8,8,8,8,8,8,8,8,8,8,8]⟩⟩
theorem LG:Tryz.prog.follows .mixedOrders=true:=by kernel_rfl
abbrev H5[dE] :=@D3 _ _ D0 LG _
abbrev Fg[dE] :=@DR _ _ D0 LG _
abbrev coM[dE] :=@DV _ _ D0 LG _
abbrev coI[dE] :=@DU _ _ D0 LG _
abbrev coC[dE] :=@DS _ _ D0 LG _
abbrev TK[dE] :=@DW _ _ D0 LG _
def Z8(a0:Hd):Option (Bool×Unit):=some (decide (1048576<(a0.n:Int)),())
section
open Go.RowKit
theorem ZU(x:Hd)(w:World):Calls Tryz.prog 7 #[.slice x.a x.n x.c] w λe w'=>e= .returned (.bool (decide (1048576<(x.n:Int))))/\Below w.heap.size w w':=by
 have mixed:Tryz.prog.follows .mixedOrders=true:=LG
 go_enter Tryz.func7,Tryz.ntmps7
 go_wp2
 go_ret
 exact⟨rfl,Below.refl _ _⟩
end
def adR[dE] :=DT (P:=Tryz.prog) 7 (by kernel_rfl) (Cj Tryz.func7 (by kernel_rfl) rfl) [.ty .h] [.b] rfl rfl (λx=>Z8 x.1) λx y h w=>by obtain rfl:=Option.some.inj h;exact ZU x.1 w
def Wa[dE](a0:Hd):Option (List qi×Unit):=(Dr a0).map λc=>([c],())
section
open Go.RowKit
set_option maxHeartbeats 4000000 in
set_option maxRecDepth 100000 in
theorem XI[dE](x:Hd)(c:qi)(hx:Dr x=some c)(w:World)(hB:∀a v,dE.w.cell? a=some v->w.cell? a=some v):
  Calls Tryz.prog 45 #[.slice x.a x.n x.c] w λr w'=>∃b cs e,r= .returned (.pointer (some ⟨b,0,none⟩))/\Below w.heap.size w w'/\w.heap.size<=b/\w'.heap[b]?=some (.cells cs e (0,0))/\cs.size=3/\jB cs 0 c:=by
 have mixed:Tryz.prog.follows .mixedOrders=true:=LG;obtain⟨l,hl,rfl⟩:=aj.1 hx;obtain⟨hlen,hg⟩:=Bv hl
 have hg2:∀ (k:Nat) m,l[k]?=some m->∃ad,x.a=some ad/\w.cell? (ad.add k)=some (.int .u8 m):=λk m hk=>by obtain⟨ad,h1,h2⟩:=hg k m hk;exact⟨ad,h1,hB _ _ h2⟩
 clear hg hB hl hx;obtain⟨a,n,cp⟩:=x;simp only at hlen hg2 ⊢;obtain⟨h0,hh0⟩:∃h0,h0=wrap64 (10101+(n:Int)):=⟨_,rfl⟩
 rw[<-hh0];obtain⟨hf,hhf⟩:∃hf,hf=(l.take 4000).foldl Dv h0:=⟨_,rfl⟩
 rw[<-hhf]
 go_enter Tryz.func45,Tryz.ntmps45
 go_wp2
 rw[<-hh0]
 go_loop [3,4] (λh i=>∃k:Nat,k<=n/\k<=4000/\i= .int .i64 k/\h= .int .i64 ((l.take k).foldl Dv h0)) (λ_ i=>n-(intOf i).toNat)
 case atStart=>exact⟨0,bO _,bO _,rfl,by rw[dw,List.foldl_nil]⟩
 case round=>
  obtain⟨k,hk,hk4,rfl,rfl⟩:=hrel;clear hh0;by_cases h1:k<n
  ·by_cases h2:k<4000
   ·have hgk:l[k]?=some l[k] :=aq (by omega);obtain⟨ad,rfl,hc⟩:=hg2 k _ hgk
    have hnext: (l.take (k+1)).foldl Dv h0=Dv ((l.take k).foldl Dv h0) l[k] :=by rw[Ee,hgk,List.foldl_append,Option.toList_some,List.foldl_cons,List.foldl_nil]
    generalize l[k]=m at hc hnext hgk;clear hg2
    go_wp2
    refine⟨⟨k+1,h1,h2,by rw[Int.natCast_succ],by rw[hnext];rfl⟩,?_⟩;simp only[intOf];omega
   ·have hk0:l.take 4000=l.take k:=by rw[show k=4000 by omega]
    clear hg2
    go_wp2
    go_ret
    rw[hk0]at hhf;subst hhf;exact⟨_,rfl,(Below.refl _ w).alloc (az _) _,az _,_,⟨_,iy w _⟩,rfl,rfl,rfl,rfl⟩
  ·have hk0:l.take 4000=l.take k:=by rw[bW (by omega),bW (by omega)]
   clear hg2
   go_wp2
   go_ret
   rw[hk0]at hhf;subst hhf;exact⟨_,rfl,(Below.refl _ w).alloc (az _) _,az _,_,⟨_,iy w _⟩,rfl,rfl,rfl,rfl⟩
end
def abG[dE] :=DL (P:=Tryz.prog) 45 (by kernel_rfl) (Cj Tryz.func45 (by kernel_rfl) rfl) Dr XI
def OO[dE](a0:List qi):Option (List qi×Int×Unit):=Dq C4 a0
section
open Go.RowKit
set_option maxHeartbeats 4000000 in
set_option maxRecDepth 100000 in
theorem WR[dE](c:qi)(y:qi×Int)(hy:C4 c=some y)(w:World)(b O:Nat)(cs:Array Value)(e:TypeId)(hB:∀a v,dE.w.cell? a=some v->w.cell? a=some v/\a.block≠b)(hb:w.heap[b]?=some (.cells cs e (0,0)))(hc:jB cs O c):
   Calls Tryz.prog 152 #[.pointer (some ⟨b,O,none⟩)] w λr w'=>r= .returned (.int .i64 y.2)/\w'.os=w.os/\w'.tape=w.tape/\w'.output=w.output/\w'.heap.size=w.heap.size/\(∀k,k≠b->w'.heap[k]?=w.heap[k]?)/\∃cs',w'.heap[b]?=some (.cells cs' e (0,0))/\cs'.size=cs.size/\jB cs' O y.1/\∀k,(k<O\/O+3<=k)->cs'[k]?=cs[k]? :=by
 have mixed:Tryz.prog.follows .mixedOrders=true:=LG;have h0:w.cell? ⟨b,O,none⟩=some (.slice c.b.a c.b.n c.b.c):=by simp[World.cell?,hb,hc.1]
 have h1:w.cell? ⟨b,O+1,none⟩=some (.int .i64 c.i):=by simp[World.cell?,hb,hc.2.1]
 have h2:w.cell? ⟨b,O+2,none⟩=some (.int .i64 c.h):=by simp[World.cell?,hb,hc.2.2]
 have hf1:w.frozen? ⟨b,O+1,none⟩=false:=by simp[World.frozen?,hb]
 have hf2:w.frozen? ⟨b,O+2,none⟩=false:=by simp[World.frozen?,hb]
 unfold C4 at hy;split at hy
 ·rename_i hi;split at hy
  ·rename_i hi0;obtain⟨m,hm,rfl⟩:=aj.1 hy;obtain⟨l,hl,hm⟩:=ah.1 hm;obtain⟨_,hg⟩:=Bv hl;obtain⟨ad,ha,hcell⟩:=hg _ _ hm;obtain⟨hc2,hne⟩:=hB _ _ hcell;rw[ka]at hne;clear hy hg hB hl;obtain⟨⟨a,n,cp⟩,i,h⟩:=c;simp only at hi hi0 ha h0 h1 h2 hc2 hm ⊢;subst ha;clear hm hcell;have hk:∀v,(w.setCell ⟨b,O+2,none⟩ v).cell? (ad.add i.toNat)=some (.int .u8 m):=λv=>(World.cell?_setCell_other w _ _ v (λe=>hne (by rw[<-ka ad i.toNat,<-e]))).trans hc2
   go_enter Tryz.func152,Tryz.ntmps152
   go_wp2
   go_region
   go_wp2
   go_region
   go_wp2
   go_region
   go_wp2
   go_ret
   exact⟨rfl,rfl,rfl,rfl,C5 hb hc (.inl rfl)⟩
  ·cases hy
 ·rename_i hi;obtain rfl:=Option.some.inj hy;obtain⟨⟨a,n,cp⟩,i,h⟩:=c;simp only at hi h0 h1 h2 ⊢;clear hy hB
  go_enter Tryz.func152,Tryz.ntmps152
  go_wp2
  go_region
  go_wp2
  go_region
  go_wp2
  go_ret
  exact⟨rfl,rfl,rfl,rfl,C5 hb hc (.inr ⟨rfl,rfl⟩)⟩
end
def aas[dE] :=DN (P:=Tryz.prog) 152 (by kernel_rfl) (Cj Tryz.func152 (by kernel_rfl) rfl) C4 WR
def EJ[dE](a0:List qi)(a1:Int):Option ((List qi)×Int×Unit):=
 br (decide (a1<=0)) (some (a0,0,())) (br (decide (a1<=256)) ((OO a0).bind λy1=>iteP (y1.1.length=a0.length) (iteP (a1=0) none (some (y1.1,(Int.tmod y1.2.1 a1),()))) none) ((OO a0).bind λy2=>iteP (y2.1.length=a0.length) ((OO y2.1).bind λy3=>iteP (y3.1.length=y2.1.length) ((OO y3.1).bind λy4=>iteP (y4.1.length=y3.1.length) ((OO y4.1).bind λy5=>iteP (y5.1.length=y4.1.length) (iteP (a1=0) none (some (y5.1,(Int.tmod (aeq .i64 ((aeq .i64 ((aeq .i64 ((aeq .i64 (y2.2.1*16777216))+(aeq .i64 (y3.2.1*65536))))+(aeq .i64 (y4.2.1*256))))+y5.2.1)) a1),()))) none) none) none) none))
def Gb[dE] :=TK 47 Tryz.f47 (.st .cur) WG JJ (λl x=>EJ l x.1) [aas] [] (by kernel_rfl) λl x=>by simp only[EJ,tm,-eq_self];kernel_rfl
abbrev R2:LX:=⟨⟨[Ux,acD,Of],[],[.st .cur,.st .place],1,22⟩,[(.ext 0,⟨[acD],[],[.st .cur,.st .place],1,22⟩)],[],[0,3,4],[3]⟩
def M8[dE](s:ZF×Unit×List qi×List uQ×Unit):R2.R:=
 br (decide (s.1.2.2.1<5)) ((EJ s.2.2.1 4).bind λy4=>iteP (y4.1.length=s.2.2.1.length) ((EJ y4.1 4).bind λy5=>iteP (y5.1.length=y4.1.length) ((EJ y5.1 4).bind λy6=>iteP (y6.1.length=y5.1.length) (iteP ((s.2.2.2.1++([(⟨y4.2.1,(aeq .i64 (1+y5.2.1)),y6.2.1⟩:uQ)]:List uQ)).length*24<=2 ^ 40) (some (.inl (((),(),(aeq .i64 (s.1.2.2.1+1)),()),(()),y6.1,(s.2.2.2.1++([(⟨y4.2.1,(aeq .i64 (1+y5.2.1)),y6.2.1⟩:uQ)]:List uQ)),()))) none) none) none) none) (some (.inr (((),()),(()),s.2.2)))
def WE[dE] :=ny M8
def WO[dE] :=H5 Tryz.f228 [0] R2 M8 [Gb] [] (by kernel_rfl) λs=>by simp only[M8,tm,-eq_self];kernel_rfl
def L4[dE](a0:List qi):Option ((List qi)×(List uQ)×Unit):=
 (WE (((),(),0,()),(()),a0,([]:List uQ),())).bind λe7=>some e7.2.2
def Up[dE] :=TK 228 Tryz.f228 (.st .cur) [] [.ls (.st .place)] (λl _=>L4 l) [] [WO] (by kernel_rfl) λl x=>by simp only[L4,tm];kernel_rfl
def EN(a0:Int)(a1:Int)(a2:Int):Option (Bool×Unit):=
 br (decide (a0≥a1)) (some ((decide (a0<=a2)),())) (some (false,()))
def FN[dE] :=Fg 57 Tryz.f57 aax [.b] (λx=>EN x.1 x.2.1 x.2.2.1) [] [] (by kernel_rfl) λx=>by simp only[EN,tm];kernel_rfl
abbrev Q4:LX:=⟨⟨[SY,OC],[],[],0,38⟩,[(.ret,⟨[SY,O3],[],[],0,38⟩),(.ext 0,⟨[SY,NY],[],[],0,38⟩)],[],[0,3],[0,2]⟩
def IC(s: (List uQ×Int×Unit)×Unit×Unit):Q4.R:=
 br (decide (s.1.2.1<(s.1.1.length:Int))) (iteP (0<=s.1.2.1) ((s.1.1[s.1.2.1.toNat]?).bind λx3=>(EN x3.rack 0 9).bind λy4=>br (!y4.1) (some (.inr (.inl ((s.1.1,false,()),(()),(()))))) (iteP (0<=s.1.2.1) ((s.1.1[s.1.2.1.toNat]?).bind λx5=>(EN x5.capacity 0 9).bind λy6=>br (!y6.1) (some (.inr (.inl ((s.1.1,false,()),(()),(()))))) (iteP (0<=s.1.2.1) ((s.1.1[s.1.2.1.toNat]?).bind λx7=>(EN x7.load 0 99).bind λy8=>br (!y8.1) (some (.inr (.inl ((s.1.1,false,()),(()),(()))))) (some (.inl ((s.1.1,(aeq .i64 (s.1.2.1+1)),()),(()),(()))))) none)) none)) none) (some (.inr (.inr ((s.1.1,(),()),(()),(())))))
def OA:=ny IC
def VA[dE] :=H5 Tryz.f170 [0] Q4 IC [FN] [] (by kernel_rfl) λs=>by simp only[IC,tm];kernel_rfl
def FG(a0:List uQ):Option (Bool×Unit):=
 (OA ((a0,0,()),(()),(()))).bind λe9=>Sum.elim (λe9_0=>some e9_0.1.2) (λe9_1=>some (((e9_1.1.1.length:Int)==5),())) e9
def ML[dE] :=Fg 170 Tryz.f170 aay [.b] (λx=>FG x.1) [] [VA] (by kernel_rfl) λx=>by simp only[FG,tm];kernel_rfl
def K0(a0:Int):Option (qk×Unit):=
 (EN a0 1 2).bind λy1=>br (!y1.1) (some ((⟨true,true,1,0,(⟨0,0,([]:List Int),([]:List Int)⟩:nG),0,([]:List rp),0,([]:List rp)⟩:qk),())) (some ((⟨true,true,a0,0,(⟨0,0,([]:List Int),([]:List Int)⟩:nG),0,([]:List rp),0,([]:List rp)⟩:qk),()))
def SQ[dE] :=Fg 257 Tryz.f257 WG abO (λx=>K0 x.1) [FN] [] (by kernel_rfl) λx=>by simp only[K0,tm];kernel_rfl
abbrev Qu:LX:=⟨⟨[Mc,SZ,Of],[K5,acW],ac0,0,25⟩,[(.ext 0,⟨[Mc,SZ],[K5,acW],ac0,0,25⟩)],[.b 1 1 (.st .server)],[2,3,4],[2,3]⟩
def K7(s:ZF×(LL×LL×Unit)×List qk×List Int×List uQ×Unit):Qu.R:=
 br (decide (s.1.2.2.1<5)) ((K0 1).bind λy34=>iteP ((s.2.2.1++([y34.1]:List qk)).length*152<=2 ^ 40) (some (.inl (((),(),(aeq .i64 (s.1.2.2.1+1)),()),s.2.1,(s.2.2.1++([y34.1]:List qk)),s.2.2.2))) none) (some (.inr (((),(),()),s.2)))
def Uv:=ny K7
def UR[dE] :=H5 Tryz.f227 [0] Qu K7 [SQ] [] (by kernel_rfl) λs=>by simp only[K7,tm];kernel_rfl
def Lk(a0:List uQ):Option (qh×Unit):=
 (FG a0).bind λy1=>br (!y1.1) (some ((⟨0,([]:List qk),([]:List Int),(⟨([]:List nG),0⟩:jZ),0,(⟨0,0,0⟩:uN),([]:List uQ)⟩:qh),())) (iteP (0<=(5:Int)/\(5:Int)=5/\5*((8:Nat):Int)<=2 ^ 40) (iteP ((([]:List uQ)++a0).length*24<=2 ^ 40) ((Uv (((),(),0,()),((0,(),(),(),0,0,0,0,0,(),()),(0,(),(),(),0,3,0,0,0,(),()),()),([]:List qk),(List.replicate (5:Int).toNat (0:Int)),(([]:List uQ)++a0),())).bind λe35=>some ((⟨e35.2.1.2.1.1,e35.2.2.1,e35.2.2.2.1,(⟨([]:List nG),e35.2.1.2.1.2.2.2.2.1⟩:jZ),e35.2.1.2.1.2.2.2.2.2.1,(⟨e35.2.1.2.1.2.2.2.2.2.2.1,e35.2.1.2.1.2.2.2.2.2.2.2.1,e35.2.1.2.1.2.2.2.2.2.2.2.2.1⟩:uN),e35.2.2.2.2.1⟩:qh),())) none) none)
def Wr[dE] :=Fg 227 Tryz.f227 aay UC (λx=>Lk x.1) [ML] [UR] (by kernel_rfl) λx=>by simp only[Lk,tm,-eq_self];kernel_rfl
def Gs[dE](a0:List qi)(a1:Int):Option ((List qi)×Bool×Unit):=
 (EJ a0 a1).bind λy1=>iteP (y1.1.length=a0.length) (some (y1.1,(y1.2.1==0),())) none
def Jw[dE] :=TK 104 Tryz.f104 (.st .cur) WG [.b] (λl x=>Gs l x.1) [Gb] [] (by kernel_rfl) λl x=>by simp only[Gs,tm,-eq_self];kernel_rfl
def EX[dE](a0:List qi)(a1:List Int):Option ((List qi)×Int×Unit):=
 (EJ a0 (a1.length:Int)).bind λy1=>iteP (y1.1.length=a0.length) (iteP (0<=y1.2.1) ((a1[y1.2.1.toNat]?).bind λx2=>some (y1.1,x2,())) none) none
def GB[dE] :=TK 48 Tryz.f48 (.st .cur) Yp JJ (λl x=>EX l x.1) [Gb] [] (by kernel_rfl) λl x=>by simp only[EX,tm,-eq_self];kernel_rfl
def Ou[dE](a0:List qi):Option ((List qi)×Op×Unit):=
 (EJ a0 3).bind λy1=>iteP (y1.1.length=a0.length) ((EJ y1.1 5).bind λy2=>iteP (y2.1.length=y1.1.length) ((EJ y2.1 3).bind λy3=>iteP (y3.1.length=y2.1.length) ((EJ y3.1 10).bind λy4=>iteP (y4.1.length=y3.1.length) ((Gs y4.1 3).bind λy5=>iteP (y5.1.length=y4.1.length) (br y5.2.1 ((EX y5.1 ([0,0,1,5,9]:List Int)).bind λy6=>iteP (y6.1.length=y5.1.length) (some (y6.1,(⟨y1.2.1,(aeq .i64 (1+y2.2.1)),2,y3.2.1,y6.2.1,y4.2.1⟩:Op),())) none) (some (y5.1,(⟨y1.2.1,(aeq .i64 (1+y2.2.1)),1,y3.2.1,0,y4.2.1⟩:Op),()))) none) none) none) none) none
def Wz[dE] :=TK 216 Tryz.f216 (.st .cur) [] [.st .op] (λl _=>Ou l) [Gb,Jw,GB] [] (by kernel_rfl) λl x=>by simp only[Ou,tm,-eq_self];kernel_rfl
def NJ[dE](a0:List qi):Option ((List qi)×wT×Unit):=
 (EJ a0 5).bind λy1=>iteP (y1.1.length=a0.length) ((EJ y1.1 24).bind λy2=>iteP (y2.1.length=y1.1.length) (br (y2.2.1==0) ((EJ y2.1 20).bind λy3=>iteP (y3.1.length=y2.1.length) (some (y3.1,(⟨3,y1.2.1,0,(aeq .i64 (1+y3.2.1)),(⟨0,0,0,0,0,0⟩:Op)⟩:wT),())) none) (br (y2.2.1==1) ((EJ y2.1 2).bind λy4=>iteP (y4.1.length=y2.1.length) ((EJ y4.1 3).bind λy5=>iteP (y5.1.length=y4.1.length) (some (y5.1,(⟨4,0,y4.2.1,(aeq .i64 (1+y5.2.1)),(⟨0,0,0,0,0,0⟩:Op)⟩:wT),())) none) none) (br (y2.2.1==2) (some (y2.1,(⟨5,0,0,0,(⟨0,0,0,0,0,0⟩:Op)⟩:wT),())) (br (y2.2.1==3) (some (y2.1,(⟨6,y1.2.1,0,0,(⟨0,0,0,0,0,0⟩:Op)⟩:wT),())) (let j23 (p6:Bool):Option ((List qi)×wT×Unit):=br p6 (some (y2.1,(⟨7,y1.2.1,0,0,(⟨0,0,0,0,0,0⟩:Op)⟩:wT),())) (br (y2.2.1==6) ((Gs y2.1 3).bind λy7=>iteP (y7.1.length=y2.1.length) (br y7.2.1 (some (y7.1,(⟨8,y1.2.1,0,0,(⟨0,0,0,0,0,0⟩:Op)⟩:wT),())) ((Ou y7.1).bind λy26=>iteP (y26.1.length=y7.1.length) (some (y26.1,(⟨1,y1.2.1,0,0,y26.2.1⟩:wT),())) none)) none) (br (y2.2.1==7) ((EX y2.1 ([0,0,1]:List Int)).bind λy8=>iteP (y8.1.length=y2.1.length) (some (y8.1,(⟨9,y1.2.1,0,y8.2.1,(⟨0,0,0,0,0,0⟩:Op)⟩:wT),())) none) (br (y2.2.1==8) ((EJ y2.1 3).bind λy9=>iteP (y9.1.length=y2.1.length) (some (y9.1,(⟨10,0,0,(aeq .i64 (1+y9.2.1)),(⟨0,0,0,0,0,0⟩:Op)⟩:wT),())) none) (let j22 (p10:Bool):Option ((List qi)×wT×Unit):=br p10 ((EJ y2.1 12).bind λy11=>iteP (y11.1.length=y2.1.length) (some (y11.1,(⟨11,0,0,y11.2.1,(⟨0,0,0,0,0,0⟩:Op)⟩:wT),())) none) (br (y2.2.1==11) ((EJ y2.1 5).bind λy12=>iteP (y12.1.length=y2.1.length) ((EJ y12.1 4).bind λy13=>iteP (y13.1.length=y12.1.length) (some (y13.1,(⟨12,y1.2.1,y12.2.1,(aeq .i64 (1+y13.2.1)),(⟨0,0,0,0,0,0⟩:Op)⟩:wT),())) none) none) (br (y2.2.1==12) (some (y2.1,(⟨13,y1.2.1,0,0,(⟨0,0,0,0,0,0⟩:Op)⟩:wT),())) (br (y2.2.1==13) (some (y2.1,(⟨14,y1.2.1,0,0,(⟨0,0,0,0,0,0⟩:Op)⟩:wT),())) (br (y2.2.1==14) (some (y2.1,(⟨15,y1.2.1,0,0,(⟨0,0,0,0,0,0⟩:Op)⟩:wT),())) (let j21 (p14:Bool):Option ((List qi)×wT×Unit):=br p14 ((EJ y2.1 3).bind λy15=>iteP (y15.1.length=y2.1.length) ((EJ y15.1 20).bind λy16=>iteP (y16.1.length=y15.1.length) (some (y16.1,(⟨16,0,(aeq .i64 (1+y15.2.1)),(aeq .i64 (1+y16.2.1)),(⟨0,0,0,0,0,0⟩:Op)⟩:wT),())) none) none) (br (y2.2.1==17) ((EJ y2.1 3).bind λy19=>iteP (y19.1.length=y2.1.length) (some (y19.1,(⟨2,y1.2.1,0,y19.2.1,(⟨0,0,0,0,0,0⟩:Op)⟩:wT),())) none) (br (y2.2.1==18) ((EJ y2.1 3).bind λy20=>iteP (y20.1.length=y2.1.length) (some (y20.1,(⟨2,y1.2.1,0,y20.2.1,(⟨0,0,0,0,0,0⟩:Op)⟩:wT),())) none) ((Ou y2.1).bind λy27=>iteP (y27.1.length=y2.1.length) (some (y27.1,(⟨1,y1.2.1,0,0,y27.2.1⟩:wT),())) none)));br (y2.2.1==15) (j21 true) (j21 (y2.2.1==16)))))));br (y2.2.1==9) (j22 true) (j22 (y2.2.1==10))))));br (y2.2.1==4) (j23 true) (j23 (y2.2.1==5))))))) none) none
def Yh[dE] :=TK 258 Tryz.f258 (.st .cur) [] [.st .event] (λl _=>NJ l) [Gb,Jw,GB,Wz] [] (by kernel_rfl) λl x=>by simp only[NJ,tm,-eq_self];kernel_rfl
abbrev Ra:LX:=⟨⟨[Ux,acE,Om],[],[.st .cur,.st .event],1,48⟩,[(.ext 0,⟨[acE],[],[.st .cur,.st .event],1,48⟩)],[],[0,5,6],[5]⟩
def Km[dE](s:ZF×Unit×List qi×List wT×Unit):Ra.R:=
 br (decide (s.1.2.2.1>0)) ((NJ s.2.2.1).bind λy21=>iteP (y21.1.length=s.2.2.1.length) (br (y21.2.1.kind==1) ((Gs y21.1 3).bind λy22=>iteP (y22.1.length=y21.1.length) (br (!y22.2.1) ((EX y22.1 ([0,0,1]:List Int)).bind λy23=>iteP (y23.1.length=y22.1.length) (iteP ((s.2.2.2.1++([(⟨y21.2.1.kind,y23.2.1,y21.2.1.other,y21.2.1.n,y21.2.1.op⟩:wT)]:List wT)).length*80<=2 ^ 40) (some (.inl (((),(),(aeq .i64 (s.1.2.2.1-1)),()),(()),y23.1,(s.2.2.2.1++([(⟨y21.2.1.kind,y23.2.1,y21.2.1.other,y21.2.1.n,y21.2.1.op⟩:wT)]:List wT)),()))) none) none) (iteP ((s.2.2.2.1++([y21.2.1]:List wT)).length*80<=2 ^ 40) (some (.inl (((),(),(aeq .i64 (s.1.2.2.1-1)),()),(()),y22.1,(s.2.2.2.1++([y21.2.1]:List wT)),()))) none)) none) (iteP ((s.2.2.2.1++([y21.2.1]:List wT)).length*80<=2 ^ 40) (some (.inl (((),(),(aeq .i64 (s.1.2.2.1-1)),()),(()),y21.1,(s.2.2.2.1++([y21.2.1]:List wT)),()))) none)) none) (some (.inr (((),()),(()),s.2.2)))
def Mw[dE] :=ny Km
def VK[dE] :=H5 Tryz.f229 [0] Ra Km [Jw,Yh,GB] [] (by kernel_rfl) λs=>by simp only[Km,tm,-eq_self];kernel_rfl
def MI[dE](a0:List qi)(a1:Int):Option ((List qi)×(List wT)×Unit):=
 (EJ a0 3).bind λy1=>iteP (y1.1.length=a0.length) ((EJ y1.1 20).bind λy2=>iteP (y2.1.length=y1.1.length) ((Gs y2.1 2).bind λy3=>iteP (y3.1.length=y2.1.length) (br y3.2.1 ((EJ y3.1 (aeq .i64 (a1+1))).bind λy17=>iteP (y17.1.length=y3.1.length) ((Mw (((),(),y17.2.1,()),(()),y17.1,([(⟨4,0,1,2,(⟨0,0,0,0,0,0⟩:Op)⟩:wT),(⟨5,0,0,0,(⟨0,0,0,0,0,0⟩:Op)⟩:wT)]:List wT),())).bind λe28=>some e28.2.2) none) ((EJ y3.1 (aeq .i64 (a1+1))).bind λy29=>iteP (y29.1.length=y3.1.length) ((Mw (((),(),y29.2.1,()),(()),y29.1,([(⟨16,0,(aeq .i64 (1+y1.2.1)),(aeq .i64 (1+y2.2.1)),(⟨0,0,0,0,0,0⟩:Op)⟩:wT)]:List wT),())).bind λe40=>some e40.2.2) none)) none) none) none
def Xo[dE] :=TK 229 Tryz.f229 (.st .cur) WG [.ls (.st .event)] (λl x=>MI l x.1) [Gb,Jw] [VK] (by kernel_rfl) λl x=>by simp only[MI,tm,-eq_self];kernel_rfl
def H3(a0:nG):Option (nG×Unit):=
 iteP ((([]:List Int)++a0.replicas).length*8<=2 ^ 40) (iteP ((([]:List Int)++a0.witnesses).length*8<=2 ^ 40) (some ((⟨a0.epoch,a0.primary,(([]:List Int)++a0.replicas),(([]:List Int)++a0.witnesses)⟩:nG),())) none) none
def P9[dE] :=Fg 199 Tryz.f199 Yq abP (λx=>H3 x.1) [] [] (by kernel_rfl) λx=>by simp only[H3,tm];kernel_rfl
def Gt(a0:List rp):Option ((List rp)×Unit):=
 iteP ((([]:List rp)++a0).length*56<=2 ^ 40) (some ((([]:List rp)++a0),())) none
def KA[dE] :=Fg 103 Tryz.f103 RU Vt (λx=>Gt x.1) [] [] (by kernel_rfl) λx=>by simp only[Gt,tm];kernel_rfl
def Ij(a0:qk):Option (qk×Unit):=
 (H3 a0.config).bind λy1=>(Gt a0.log).bind λy2=>(Gt a0.learned).bind λy3=>some ((⟨a0.up,a0.intact,a0.version,a0.epoch,y1.1,a0.first,y2.1,a0.commit,y3.1⟩:qk),())
def Si[dE] :=Fg 165 Tryz.f165 VV abO (λx=>Ij x.1) [P9,KA] [] (by kernel_rfl) λx=>by simp only[Ij,tm];kernel_rfl
abbrev Tb:LX:=⟨⟨[LD,O4,Xv,Of],[Yt,ZH,Y7],abR,0,29⟩,[(.ext 0,⟨[Mc,SZ],[ZH,Y7],abR,0,29⟩)],[.b 2 0 (.st .config)],[1,2,3,4],[2,3]⟩
def KW(s:abN×(ado×UB×UB×Unit)×List nG×Unit):Tb.R:=
 br (decide (s.1.2.2.2.1<(s.2.1.1.1.length:Int))) (iteP (0<=s.1.2.2.2.1) ((s.2.1.1.1[s.1.2.2.2.1.toNat]?).bind λx14=>(H3 x14).bind λy15=>iteP ((s.2.2.1++([y15.1]:List nG)).length*64<=2 ^ 40) (some (.inl (((),(),(),(aeq .i64 (s.1.2.2.2.1+1)),()),s.2.1,(s.2.2.1++([y15.1]:List nG)),()))) none) none) (some (.inr (((),(),()),s.2.1.2,s.2.2)))
def SW:=ny KW
def XE[dE] :=H5 Tryz.f166 [0] Tb KW [P9] [] (by kernel_rfl) λs=>by simp only[KW,tm];kernel_rfl
def L0(a0:jZ):Option (jZ×Unit):=
 (SW (((),(),(),0,()),((a0.configs,a0.activated,()),((),0,()),((),a0.activated,()),()),([]:List nG),())).bind λe16=>some ((⟨e16.2.2.1,e16.2.1.2.1.2.1⟩:jZ),())
def Sg[dE] :=Fg 166 Tryz.f166 Xu abQ (λx=>L0 x.1) [] [XE] (by kernel_rfl) λx=>by simp only[L0,tm];kernel_rfl
abbrev Tc:LX:=⟨⟨[LD,O4,Xv,Of],[JZ,K5,Y8],abT,0,42⟩,[(.ext 0,⟨[LD,O4,Xv],[JZ,K5,Y8],abT,0,42⟩)],[.b 2 1 (.st .server)],[1,2,3,4],[1,2,3]⟩
def KX(s:abN×(Nn×LL×acI×Unit)×List qk×Unit):Tc.R:=
 br (decide (s.1.2.2.2.1<(s.2.1.1.2.1.length:Int))) (iteP (0<=s.1.2.2.2.1) ((s.2.1.1.2.1[s.1.2.2.2.1.toNat]?).bind λx56=>(Ij x56).bind λy57=>iteP ((s.2.2.1++([y57.1]:List qk)).length*152<=2 ^ 40) (some (.inl (((),(),(),(aeq .i64 (s.1.2.2.2.1+1)),()),s.2.1,(s.2.2.1++([y57.1]:List qk)),()))) none) none) (some (.inr (((),(),(),()),s.2)))
def SX:=ny KX
def XF[dE] :=H5 Tryz.f55 [0] Tc KX [Si] [] (by kernel_rfl) λs=>by simp only[KX,tm];kernel_rfl
def Fz(a0:qh):Option (qh×Unit):=
 (SX (((),(),(),0,()),((a0.now,a0.servers,a0.sides,a0.master.configs,a0.master.activated,a0.masterUp,a0.lease.epoch,a0.lease.holder,a0.lease.ends,a0.places,()),(0,(),(),(),0,0,0,0,0,(),()),(a0.now,(),a0.sides,a0.master.configs,a0.master.activated,a0.masterUp,a0.lease.epoch,a0.lease.holder,a0.lease.ends,a0.places,()),()),([]:List qk),())).bind λe58=>iteP ((([]:List Int)++e58.2.1.1.2.2.1).length*8<=2 ^ 40) ((L0 (⟨e58.2.1.1.2.2.2.1,e58.2.1.1.2.2.2.2.1⟩:jZ)).bind λy59=>iteP ((([]:List uQ)++e58.2.1.1.2.2.2.2.2.2.2.2.2.1).length*24<=2 ^ 40) (some ((⟨e58.2.1.2.2.1.1,e58.2.2.1,(([]:List Int)++e58.2.1.1.2.2.1),y59.1,e58.2.1.2.2.1.2.2.2.2.2.1,(⟨e58.2.1.2.2.1.2.2.2.2.2.2.1,e58.2.1.2.2.1.2.2.2.2.2.2.2.1,e58.2.1.2.2.1.2.2.2.2.2.2.2.2.1⟩:uN),(([]:List uQ)++e58.2.1.1.2.2.2.2.2.2.2.2.2.1)⟩:qh),())) none) none
def F4[dE] :=Fg 55 Tryz.f55 Ss UC (λx=>Fz x.1) [Sg] [XF] (by kernel_rfl) λx=>by simp only[Fz,tm];kernel_rfl
abbrev RZ:LX:=⟨⟨[OD,OC],[],[],0,19⟩,[(.ret,⟨[OD,O3],[],[],0,19⟩),(.ext 0,⟨[OD,NY],[],[],0,19⟩)],[],[0,3],[0,2]⟩
def J5(s:acJ×Unit×Unit):RZ.R:=
 br (decide (s.1.2.1<(s.1.1.length:Int))) (iteP (0<=s.1.2.1) ((s.1.1[s.1.2.1.toNat]?).bind λx3=>(EN x3 0 3).bind λy4=>br (!y4.1) (some (.inr (.inl ((s.1.1,false,()),(()),(()))))) (some (.inl ((s.1.1,(aeq .i64 (s.1.2.1+1)),()),(()),(()))))) none) (some (.inr (.inr ((s.1.1,(),()),(()),(())))))
def Pr:=ny J5
def WL[dE] :=H5 Tryz.f167 [0] RZ J5 [FN] [] (by kernel_rfl) λs=>by simp only[J5,tm];kernel_rfl
def HD(a0:List Int):Option (Bool×Unit):=
 (Pr ((a0,0,()),(()),(()))).bind λe5=>Sum.elim (λe5_0=>some e5_0.1.2) (λe5_1=>some (((e5_1.1.1.length:Int)==5),())) e5
def Pp[dE] :=Fg 167 Tryz.f167 Yp [.b] (λx=>HD x.1) [] [WL] (by kernel_rfl) λx=>by simp only[HD,tm];kernel_rfl
abbrev Qq:LX:=⟨⟨[OD,OC],[],[],0,32⟩,[(.ret,⟨[O3],[],[],0,32⟩),(.ext 0,⟨[NY],[],[],0,32⟩)],[],[0,3],[2]⟩
def GV(s:acJ×Unit×Unit):Qq.R:=
 br (decide (s.1.2.1<(s.1.1.length:Int))) (iteP (0<=s.1.2.1) ((s.1.1[s.1.2.1.toNat]?).bind λx3=>(EN x3 0 4).bind λy4=>br (!y4.1) (some (.inr (.inl ((false,()),(()),(()))))) (br (decide (s.1.2.1>0)) (iteP (0<=(aeq .i64 (s.1.2.1-1))) ((s.1.1[(aeq .i64 (s.1.2.1-1)).toNat]?).bind λx5=>iteP (0<=s.1.2.1) ((s.1.1[s.1.2.1.toNat]?).bind λx6=>br (decide (x5≥x6)) (some (.inr (.inl ((false,()),(()),(()))))) (some (.inl ((s.1.1,(aeq .i64 (s.1.2.1+1)),()),(()),(()))))) none) none) (some (.inl ((s.1.1,(aeq .i64 (s.1.2.1+1)),()),(()),(())))))) none) (some (.inr (.inr (((),()),(()),(())))))
def LA:=ny GV
def UN[dE] :=H5 Tryz.f191 [0] Qq GV [FN] [] (by kernel_rfl) λs=>by simp only[GV,tm];kernel_rfl
def Gj(a0:List Int):Option (Bool×Unit):=
 (LA ((a0,0,()),(()),(()))).bind λe7=>Sum.elim (λe7_0=>some e7_0.1) (λ_=>some (true,())) e7
def Nj[dE] :=Fg 191 Tryz.f191 Yp [.b] (λx=>Gj x.1) [] [UN] (by kernel_rfl) λx=>by simp only[Gj,tm];kernel_rfl
abbrev Q5:LX:=⟨⟨[OD,KG,Nm],[],[],0,18⟩,[(.ret,⟨[S4],[],[],0,18⟩),(.ext 0,⟨[Oo],[],[],0,18⟩)],[],[0,1,5],[4]⟩
def JA(s:acK×Unit×Unit):Q5.R:=
 br (decide (s.1.2.2.1<(s.1.1.length:Int))) (iteP (0<=s.1.2.2.1) ((s.1.1[s.1.2.2.1.toNat]?).bind λx4=>br (x4==s.1.2.1) (some (.inr (.inl ((true,()),(()),(()))))) (some (.inl ((s.1.1,s.1.2.1,(aeq .i64 (s.1.2.2.1+1)),()),(()),(()))))) none) (some (.inr (.inr (((),()),(()),(())))))
def OB:=ny JA
def VE[dE] :=H5 Tryz.f86 [0] Q5 JA [] [] (by kernel_rfl) λs=>by simp only[JA,tm];kernel_rfl
def FH(a0:List Int)(a1:Int):Option (Bool×Unit):=
 (OB ((a0,a1,0,()),(()),(()))).bind λe5=>Sum.elim (λe5_0=>some e5_0.1) (λ_=>some (false,())) e5
def HP[dE] :=Fg 86 Tryz.f86 Xr [.b] (λx=>FH x.1 x.2.1) [] [VE] (by kernel_rfl) λx=>by simp only[FH,tm];kernel_rfl
abbrev V2:LX:=⟨⟨[OD,KG,Nm],[],[],0,47⟩,[(.ext 0,⟨[OD,KG,Nm],[],[],0,47⟩)],[],[0,1,5],[0,1,5]⟩
def J7(s:acK×Unit×Unit):V2.R:=
 br (decide (s.1.2.2.1<(s.1.1.length:Int))) (iteP (0<=s.1.2.2.1) ((s.1.1[s.1.2.2.1.toNat]?).bind λx4=>br (decide (x4<s.1.2.1)) (some (.inl ((s.1.1,s.1.2.1,(aeq .i64 (s.1.2.2.1+1)),()),(()),(())))) (some (.inr (s.1,(()),(()))))) none) (some (.inr (s.1,(()),(()))))
def Sq:=ny J7
def ZN[dE] :=H5 Tryz.f192 [0] V2 J7 [] [] (by kernel_rfl) λs=>by simp only[J7,tm];kernel_rfl
def IM(a0:List Int)(a1:Int):Option ((List Int)×Unit):=
 (Sq ((a0,a1,0,()),(()),(()))).bind λe5=>let j7:Option ((List Int)×Unit):=iteP (0<=(0:Int)/\(0:Int)<=e5.1.2.2.1/\e5.1.2.2.1<=(e5.1.1.length:Int)) (iteP ((([]:List Int)++((e5.1.1.drop (0:Int).toNat).take (e5.1.2.2.1.toNat-(0:Int).toNat))).length*8<=2 ^ 40) (iteP (((([]:List Int)++((e5.1.1.drop (0:Int).toNat).take (e5.1.2.2.1.toNat-(0:Int).toNat)))++([e5.1.2.1]:List Int)).length*8<=2 ^ 40) (iteP (0<=e5.1.2.2.1/\e5.1.2.2.1<=(e5.1.1.length:Int)/\(e5.1.1.length:Int)<=(e5.1.1.length:Int)) (iteP ((((([]:List Int)++((e5.1.1.drop (0:Int).toNat).take (e5.1.2.2.1.toNat-(0:Int).toNat)))++([e5.1.2.1]:List Int))++((e5.1.1.drop e5.1.2.2.1.toNat).take ((e5.1.1.length:Int).toNat-e5.1.2.2.1.toNat))).length*8<=2 ^ 40) (some ((((([]:List Int)++((e5.1.1.drop (0:Int).toNat).take (e5.1.2.2.1.toNat-(0:Int).toNat)))++([e5.1.2.1]:List Int))++((e5.1.1.drop e5.1.2.2.1.toNat).take ((e5.1.1.length:Int).toNat-e5.1.2.2.1.toNat))),())) none) none) none) none) none;br (decide (e5.1.2.2.1<(e5.1.1.length:Int))) (iteP (0<=e5.1.2.2.1) ((e5.1.1[e5.1.2.2.1.toNat]?).bind λx6=>br (x6==e5.1.2.1) (iteP ((([]:List Int)++e5.1.1).length*8<=2 ^ 40) (some ((([]:List Int)++e5.1.1),())) none) (j7)) none) (j7)
def Pq[dE] :=Fg 192 Tryz.f192 Xr K4 (λx=>IM x.1 x.2.1) [] [ZN] (by kernel_rfl) λx=>by simp only[IM,tm];kernel_rfl
abbrev Oq:LX:=⟨⟨[OD,QX,NZ,Om],[],Jl,0,27⟩,[(.ext 0,⟨[NZ],[],Jl,0,27⟩)],[],[0,1,5,6],[5]⟩
def Hv(s:adp×Unit×List Int×Unit):Oq.R:=
 br (decide (s.1.2.2.2.1<(s.1.1.length:Int))) (iteP (0<=s.1.2.2.2.1) ((s.1.1[s.1.2.2.2.1.toNat]?).bind λx5=>(FH s.1.2.1 x5).bind λy6=>br y6.1 (iteP (0<=s.1.2.2.2.1) ((s.1.1[s.1.2.2.2.1.toNat]?).bind λx7=>(IM s.2.2.1 x7).bind λy8=>some (.inl ((s.1.1,s.1.2.1,(),(aeq .i64 (s.1.2.2.2.1+1)),()),(()),y8.1,()))) none) (some (.inl ((s.1.1,s.1.2.1,(),(aeq .i64 (s.1.2.2.2.1+1)),()),(()),s.2.2)))) none) (some (.inr (((),()),(()),s.2.2)))
def Ok:=ny Hv
def R6[dE] :=H5 Tryz.f188 [0] Oq Hv [HP,Pq] [] (by kernel_rfl) λs=>by simp only[Hv,tm];kernel_rfl
def HE(a0:List Int)(a1:List Int):Option ((List Int)×Unit):=
 (Ok ((a0,a1,(),0,()),(()),([]:List Int),())).bind λe10=>some e10.2.2
def MS[dE] :=Fg 188 Tryz.f188 Vq K4 (λx=>HE x.1 x.2.1) [] [R6] (by kernel_rfl) λx=>by simp only[HE,tm];kernel_rfl
def EH(a0:nG):Option (Bool×Unit):=
 (EN a0.epoch 1 20).bind λy1=>br y1.1 ((Gj a0.replicas).bind λy2=>br y2.1 ((Gj a0.witnesses).bind λy3=>br y3.1 ((FH a0.replicas a0.primary).bind λy4=>br y4.1 ((HE a0.replicas a0.witnesses).bind λy5=>some (((y5.1.length:Int)==0),())) (some (false,()))) (some (false,()))) (some (false,()))) (some (false,()))
def KN[dE] :=Fg 126 Tryz.f126 Yq [.b] (λx=>EH x.1) [FN,Nj,HP,MS] [] (by kernel_rfl) λx=>by simp only[EH,tm];kernel_rfl
abbrev PI:LX:=⟨⟨[LD,OC],[Yt],[],0,35⟩,[(.ret,⟨[LD,O3],[Yt],[],0,35⟩),(.ext 0,⟨[LD,NY],[Yt],[],0,35⟩)],[],[1,3],[1,2]⟩
def FF(s:UB×(ado×Unit)×Unit):PI.R:=
 br (decide (s.1.2.1<(s.2.1.1.1.length:Int))) (iteP (0<=s.1.2.1) ((s.2.1.1.1[s.1.2.1.toNat]?).bind λx4=>(EH x4).bind λy5=>br (!y5.1) (some (.inr (.inl (((),false,()),s.2.1,(()))))) (iteP (0<=s.1.2.1) ((s.2.1.1.1[s.1.2.1.toNat]?).bind λx6=>br (!(x6.epoch==(aeq .i64 (s.1.2.1+1)))) (some (.inr (.inl (((),false,()),s.2.1,(()))))) (some (.inl (((),(aeq .i64 (s.1.2.1+1)),()),s.2.1,(()))))) none)) none) (some (.inr (.inr (((),(),()),s.2.1,(())))))
def Jx:=ny FF
def TE[dE] :=H5 Tryz.f168 [0] PI FF [KN] [] (by kernel_rfl) λs=>by simp only[FF,tm];kernel_rfl
def EU(a0:jZ):Option (Bool×Unit):=
 (Jx (((),0,()),((a0.configs,a0.activated,()),()),(()))).bind λe7=>Sum.elim (λe7_0=>some e7_0.1.2) (λe7_1=>(EN e7_1.2.1.1.2.1 0 (e7_1.2.1.1.1.length:Int)).bind λy8=>some (y8.1,())) e7
def Mt[dE] :=Fg 168 Tryz.f168 Xu [.b] (λx=>EU x.1) [FN] [TE] (by kernel_rfl) λx=>by simp only[EU,tm];kernel_rfl
def Hk(a0:uN):Option (Bool×Unit):=
 br ((a0.epoch==0)&&((a0.holder==0)&&((a0.ends==0)&&true))) (some (true,())) ((EN a0.epoch 1 20).bind λy1=>br y1.1 ((EN a0.holder 0 4).bind λy2=>br y2.1 ((EN a0.ends 1 1049).bind λy3=>some (y3.1,())) (some (false,()))) (some (false,())))
def OV[dE] :=Fg 169 Tryz.f169 YV [.b] (λx=>Hk x.1) [FN] [] (by kernel_rfl) λx=>by simp only[Hk,tm];kernel_rfl
def FI(a0:Op):Option (Bool×Unit):=
 (EN a0.client 0 2).bind λy1=>br (!y1.1) (some (false,())) ((EN a0.seq 1 99).bind λy2=>br (!y2.1) (some (false,())) ((EN a0.object 0 2).bind λy3=>br (!y3.1) (some (false,())) ((EN a0.value 0 9).bind λy4=>br (!y4.1) (some (false,())) (br (a0.kind==1) (br (a0.old==0) (some (true,())) (br (a0.kind==2) ((EN a0.old 0 9).bind λy5=>some (y5.1,())) (some (false,())))) (br (a0.kind==2) ((EN a0.old 0 9).bind λy6=>some (y6.1,())) (some (false,())))))))
def MM[dE] :=Fg 138 Tryz.f138 Xt [.b] (λx=>FI x.1) [FN] [] (by kernel_rfl) λx=>by simp only[FI,tm];kernel_rfl
abbrev V0:LX:=⟨⟨[Qk,OC],[],[],0,47⟩,[(.ret,⟨[Qk,O3],[],[],0,47⟩),(.ext 0,⟨[Qk,NY],[],[],0,47⟩)],[],[0,3],[0,2]⟩
def J6(s:acL×Unit×Unit):V0.R:=
 br (decide (s.1.2.1<(s.1.1.length:Int))) (iteP (0<=s.1.2.1) ((s.1.1[s.1.2.1.toNat]?).bind λx3=>(EN x3.epoch 1 20).bind λy4=>br (!y4.1) (some (.inr (.inl ((s.1.1,false,()),(()),(()))))) (iteP (0<=s.1.2.1) ((s.1.1[s.1.2.1.toNat]?).bind λx5=>(FI x5.op).bind λy6=>br (!y6.1) (some (.inr (.inl ((s.1.1,false,()),(()),(()))))) (br (decide (s.1.2.1>0)) (iteP (0<=(aeq .i64 (s.1.2.1-1))) ((s.1.1[(aeq .i64 (s.1.2.1-1)).toNat]?).bind λx7=>iteP (0<=s.1.2.1) ((s.1.1[s.1.2.1.toNat]?).bind λx8=>br (decide (x7.epoch>x8.epoch)) (some (.inr (.inl ((s.1.1,false,()),(()),(()))))) (some (.inl ((s.1.1,(aeq .i64 (s.1.2.1+1)),()),(()),(()))))) none) none) (some (.inl ((s.1.1,(aeq .i64 (s.1.2.1+1)),()),(()),(())))))) none)) none) (some (.inr (.inr ((s.1.1,(),()),(()),(())))))
def OZ:=ny J6
def ZM[dE] :=H5 Tryz.f213 [0] V0 J6 [FN,MM] [] (by kernel_rfl) λs=>by simp only[J6,tm];kernel_rfl
def FE(a0:List rp):Option (Bool×Unit):=
 (OZ ((a0,0,()),(()),(()))).bind λe9=>Sum.elim (λe9_0=>some e9_0.1.2) (λe9_1=>some ((decide ((e9_1.1.1.length:Int)<=16)),())) e9
def Nk[dE] :=Fg 213 Tryz.f213 RU [.b] (λx=>FE x.1) [] [ZM] (by kernel_rfl) λx=>by simp only[FE,tm];kernel_rfl
abbrev O7:LX:=⟨⟨[OD,QX,Nm],[],[],0,26⟩,[(.ret,⟨[S4],[],[],0,26⟩),(.ext 0,⟨[Oo],[],[],0,26⟩)],[],[0,1,5],[4]⟩
def HT(s:acM×Unit×Unit):O7.R:=
 br (decide (s.1.2.2.1<(s.1.1.length:Int))) (iteP (0<=s.1.2.2.1) ((s.1.1[s.1.2.2.1.toNat]?).bind λx4=>iteP (0<=s.1.2.2.1) ((s.1.2.1[s.1.2.2.1.toNat]?).bind λx5=>br (!(x4==x5)) (some (.inr (.inl ((false,()),(()),(()))))) (some (.inl ((s.1.1,s.1.2.1,(aeq .i64 (s.1.2.2.1+1)),()),(()),(()))))) none) none) (some (.inr (.inr (((),()),(()),(())))))
def L9:=ny HT
def SA[dE] :=H5 Tryz.f238 [0] O7 HT [] [] (by kernel_rfl) λs=>by simp only[HT,tm];kernel_rfl
def I3(a0:List Int)(a1:List Int):Option (Bool×Unit):=
 br (!((a0.length:Int)==(a1.length:Int))) (some (false,())) ((L9 ((a0,a1,0,()),(()),(()))).bind λe6=>Sum.elim (λe6_0=>some e6_0.1) (λ_=>some (true,())) e6)
def Ug[dE] :=Fg 238 Tryz.f238 Vq [.b] (λx=>I3 x.1 x.2.1) [] [SA] (by kernel_rfl) λx=>by simp only[I3,tm];kernel_rfl
def GX(a0:nG)(a1:nG):Option (Bool×Unit):=
 br (a0.epoch==a1.epoch) (br (a0.primary==a1.primary) ((I3 a0.replicas a1.replicas).bind λy1=>br y1.1 ((I3 a0.witnesses a1.witnesses).bind λy2=>some (y2.1,())) (some (false,()))) (some (false,()))) (some (false,()))
def Ls[dE] :=Fg 173 Tryz.f173 acj [.b] (λx=>GX x.1 x.2.1) [Ug] [] (by kernel_rfl) λx=>by simp only[GX,tm];kernel_rfl
def JD(a0:nG):Option (Bool×Unit):=
 (GX a0 (⟨0,0,([]:List Int),([]:List Int)⟩:nG)).bind λy1=>some (y1.1,())
def QJ[dE] :=Fg 88 Tryz.f88 Yq [.b] (λx=>JD x.1) [Ls] [] (by kernel_rfl) λx=>by simp only[JD,tm];kernel_rfl
def Ik(a0:List rp):Option (Int×Unit):=
 br ((a0.length:Int)==0) (some (0,())) (iteP (0<=(aeq .i64 ((a0.length:Int)-1))) ((a0[(aeq .i64 ((a0.length:Int)-1)).toNat]?).bind λx1=>some (x1.epoch,())) none)
def Sj[dE] :=Fg 172 Tryz.f172 RU JJ (λx=>Ik x.1) [] [] (by kernel_rfl) λx=>by simp only[Ik,tm];kernel_rfl
def Fm(a0:nG)(a1:Int):Option (Int×Unit):=
 (EH a0).bind λy1=>br (!y1.1) (some (0,())) (br (a1==a0.primary) (some (1,())) ((FH a0.replicas a1).bind λy2=>br y2.1 (some (2,())) ((FH a0.witnesses a1).bind λy3=>br y3.1 (some (3,())) (some (0,())))))
def OX[dE] :=Fg 128 Tryz.f128 acl JJ (λx=>Fm x.1 x.2.1) [KN,HP] [] (by kernel_rfl) λx=>by simp only[Fm,tm];kernel_rfl
def EG(a0:qk)(a1:Int):Option (Bool×Unit):=
 (EN a0.version 1 2).bind λy1=>br (!y1.1) (some (false,())) ((EN a0.epoch 0 20).bind λy2=>br (!y2.1) (some (false,())) ((FE a0.log).bind λy3=>br (!y3.1) (some (false,())) ((FE a0.learned).bind λy4=>br (!y4.1) (some (false,())) ((EN a0.first 0 16).bind λy5=>br (!y5.1) (some (false,())) ((EN (aeq .i64 (a0.first+(a0.log.length:Int))) 0 16).bind λy6=>br (!y6.1) (some (false,())) ((EN a0.commit 0 (aeq .i64 (a0.first+(a0.log.length:Int)))).bind λy7=>br (!y7.1) (some (false,())) ((JD a0.config).bind λy8=>br y8.1 (br (a0.first==0) (br ((a0.log.length:Int)==0) (some ((a0.commit==0),())) (some (false,()))) (some (false,()))) (br (!a0.intact) (some (false,())) (br (decide (a0.epoch<a0.config.epoch)) (some (false,())) ((Ik a0.log).bind λy9=>br (decide (y9.1>a0.config.epoch)) (some (false,())) ((Fm a0.config a1).bind λy10=>br (y10.1==0) (some (false,())) (br (y10.1==3) (br (decide ((a0.log.length:Int)<=3)) (br ((a0.log.length:Int)==3) (some (true,())) (some ((a0.first==0),()))) (some (false,()))) (some ((a0.first==0),()))))))))))))))
def Py[dE] :=Fg 171 Tryz.f171 Vr [.b] (λx=>EG x.1 x.2.1) [FN,Nk,QJ,Sj,OX] [] (by kernel_rfl) λx=>by simp only[EG,tm];kernel_rfl
def FR(a0:jZ)(a1:Int):Option (nG×Bool×Unit):=
 (EU a0).bind λy1=>br (!y1.1) (some ((⟨0,0,([]:List Int),([]:List Int)⟩:nG),false,())) ((EN a1 1 (a0.configs.length:Int)).bind λy2=>br (!y2.1) (some ((⟨0,0,([]:List Int),([]:List Int)⟩:nG),false,())) (iteP (0<=(aeq .i64 (a1-1))) ((a0.configs[(aeq .i64 (a1-1)).toNat]?).bind λx3=>(H3 x3).bind λy4=>some (y4.1,true,())) none))
def Rf[dE] :=Fg 101 Tryz.f101 YW Yr (λx=>FR x.1 x.2.1) [Mt,FN,P9] [] (by kernel_rfl) λx=>by simp only[FR,tm];kernel_rfl
abbrev N3:LX:=⟨⟨[LD,OC],[JZ],[],0,123⟩,[(.ret,⟨[O3],[],[],0,123⟩),(.ext 0,⟨[NY],[],[],0,123⟩)],[],[1,3],[2]⟩
def EL(s:UB×(Nn×Unit)×Unit):N3.R:=
 br (decide (s.1.2.1<(s.2.1.1.2.1.length:Int))) (iteP (0<=s.1.2.1) ((s.2.1.1.2.1[s.1.2.1.toNat]?).bind λx18=>(EG x18 s.1.2.1).bind λy19=>br (!y19.1) (some (.inr (.inl ((false,()),(()),(()))))) (br (decide (x18.epoch>(s.2.1.1.2.2.2.1.length:Int))) (some (.inr (.inl ((false,()),(()),(()))))) ((Ik x18.learned).bind λy20=>br (decide (y20.1>s.2.1.1.2.2.2.2.1)) (some (.inr (.inl ((false,()),(()),(()))))) ((FR (⟨s.2.1.1.2.2.2.1,s.2.1.1.2.2.2.2.1⟩:jZ) x18.config.epoch).bind λy21=>(JD x18.config).bind λy22=>br (!y22.1) (br (!y21.2.1) (some (.inr (.inl ((false,()),(()),(()))))) ((GX y21.1 x18.config).bind λy23=>br (!y23.1) (some (.inr (.inl ((false,()),(()),(()))))) (br (decide (x18.config.epoch>s.2.1.1.2.2.2.2.1)) (some (.inr (.inl ((false,()),(()),(()))))) (some (.inl (((),(aeq .i64 (s.1.2.1+1)),()),s.2.1,(()))))))) (some (.inl (((),(aeq .i64 (s.1.2.1+1)),()),s.2.1,(())))))))) none) (some (.inr (.inr (((),()),(()),(())))))
def Hl:=ny EL
def Rq[dE] :=H5 Tryz.f56 [0] N3 EL [Py,Sj,Rf,QJ,Ls] [] (by kernel_rfl) λs=>by simp only[EL,tm];kernel_rfl
def ED(a0:qh):Option (Bool×Unit):=
 (EN a0.now 0 999).bind λy1=>br (!y1.1) (some (false,())) (br (!((a0.servers.length:Int)==5)) (some (false,())) ((HD a0.sides).bind λy2=>br (!y2.1) (some (false,())) ((EU a0.master).bind λy3=>br (!y3.1) (some (false,())) ((EN a0.masterUp 0 3).bind λy4=>br (!y4.1) (some (false,())) ((Hk a0.lease).bind λy5=>br (!y5.1) (some (false,())) ((FG a0.places).bind λy6=>br (!y6.1) (some (false,())) (br (decide (a0.lease.epoch>a0.master.activated)) (some (false,())) ((Hl (((),0,()),((a0.now,a0.servers,a0.sides,a0.master.configs,a0.master.activated,a0.masterUp,a0.lease.epoch,a0.lease.holder,a0.lease.ends,a0.places,()),()),(()))).bind λe24=>Sum.elim (λe24_0=>some e24_0.1) (λ_=>some (true,())) e24))))))))
def ES[dE] :=Fg 56 Tryz.f56 Ss [.b] (λx=>ED x.1) [FN,Pp,Mt,OV,ML] [Rq] (by kernel_rfl) λx=>by simp only[ED,tm];kernel_rfl
def OQ(a0:Int):Option (Bool×Bool×Bool×Unit):=
 br (a0==1) (some (true,false,false,())) (let j5 (p1:Bool):Option (Bool×Bool×Bool×Unit):=br p1 (some (true,false,false,())) (let j4 (p2:Bool):Option (Bool×Bool×Bool×Unit):=br p2 (some (true,false,true,())) (br (a0==4) (some (false,true,true,())) (br (a0==10) (some (false,false,true,())) (br (a0==11) (some (false,false,true,())) (br (a0==12) (some (true,true,true,())) (br (a0==16) (some (false,true,true,())) (some (false,false,false,())))))));br (a0==2) (j4 true) (br (a0==3) (j4 true) (j4 (a0==9))));br (a0==6) (j5 true) (br (a0==7) (j5 true) (br (a0==8) (j5 true) (br (a0==13) (j5 true) (br (a0==14) (j5 true) (j5 (a0==15)))))))
def ZC[dE] :=Fg 287 Tryz.f287 WG [.b,.b,.b] (λx=>OQ x.1) [] [] (by kernel_rfl) λx=>by simp only[OQ,tm];kernel_rfl
def JP(a0:wT):Option (Bool×Unit):=
 (EN a0.kind 1 16).bind λy1=>br (!y1.1) (some (false,())) ((EN a0.server 0 4).bind λy2=>br (!y2.1) (some (false,())) ((EN a0.other 0 4).bind λy3=>br (!y3.1) (some (false,())) ((EN a0.n 0 999).bind λy4=>br (!y4.1) (some (false,())) ((OQ a0.kind).bind λy5=>let j7:Option (Bool×Unit):=br (a0.kind==1) ((FI a0.op).bind λy6=>some (y6.1,())) (some (((a0.op.client==0)&&((a0.op.seq==0)&&((a0.op.kind==0)&&((a0.op.object==0)&&((a0.op.old==0)&&((a0.op.value==0)&&true)))))),()));br (!y5.1) (br (!(a0.server==0)) (some (false,())) (br (!y5.2.1) (br (!(a0.other==0)) (some (false,())) (br (!y5.2.2.1) (br (!(a0.n==0)) (some (false,())) (j7)) (j7))) (br (!y5.2.2.1) (br (!(a0.n==0)) (some (false,())) (j7)) (j7)))) (br (!y5.2.1) (br (!(a0.other==0)) (some (false,())) (br (!y5.2.2.1) (br (!(a0.n==0)) (some (false,())) (j7)) (j7))) (br (!y5.2.2.1) (br (!(a0.n==0)) (some (false,())) (j7)) (j7)))))))
def Uh[dE] :=Fg 270 Tryz.f270 [.ty (.st .event)] [.b] (λx=>JP x.1) [FN,ZC,MM] [] (by kernel_rfl) λx=>by simp only[JP,tm];kernel_rfl
def EV(a0:qk)(a1:Int):Option (Bool×Unit):=
 (EG a0 a1).bind λy1=>br y1.1 (br a0.up ((Fm a0.config a1).bind λy2=>br (y2.1==1) (some ((a0.epoch==a0.config.epoch),())) (some (false,()))) (some (false,()))) (some (false,()))
def JV[dE] :=Fg 72 Tryz.f72 Vr [.b] (λx=>EV x.1 x.2.1) [Py,OX] [] (by kernel_rfl) λx=>by simp only[EV,tm];kernel_rfl
abbrev UD:LX:=⟨⟨[Qk,KG,QY,PN],[],[],0,33⟩,[(.ret,⟨[Om],[],[],0,33⟩),(.ext 0,⟨[aaB],[],[],0,33⟩)],[],[0,1,2,7],[6]⟩
def LQ(s: (List rp×Int×Int×Int×Unit)×Unit×Unit):UD.R:=
 br (decide (s.1.2.2.2.1<(s.1.1.length:Int))) (iteP (0<=s.1.2.2.2.1) ((s.1.1[s.1.2.2.2.1.toNat]?).bind λx5=>br (x5.op.client==s.1.2.1) (iteP (0<=s.1.2.2.2.1) ((s.1.1[s.1.2.2.2.1.toNat]?).bind λx6=>br (x6.op.seq==s.1.2.2.1) (some (.inr (.inl (s.1.2.2.2,(()),(()))))) (some (.inl ((s.1.1,s.1.2.1,s.1.2.2.1,(aeq .i64 (s.1.2.2.2.1+1)),()),(()),(()))))) none) (some (.inl ((s.1.1,s.1.2.1,s.1.2.2.1,(aeq .i64 (s.1.2.2.2.1+1)),()),(()),(()))))) none) (some (.inr (.inr (((),()),(()),(())))))
def Yl:=ny LQ
def YA[dE] :=H5 Tryz.f139 [0] UD LQ [] [] (by kernel_rfl) λs=>by simp only[LQ,tm];kernel_rfl
def OK(a0:List rp)(a1:Int)(a2:Int):Option (Int×Unit):=
 (Yl ((a0,a1,a2,0,()),(()),(()))).bind λe7=>Sum.elim (λe7_0=>some e7_0.1) (λ_=>some ((-1),())) e7
def Xe[dE] :=Fg 139 Tryz.f139 acm JJ (λx=>OK x.1 x.2.1 x.2.2.1) [] [YA] (by kernel_rfl) λx=>by simp only[OK,tm];kernel_rfl
def Nd:Option (nr×Unit):=
 some ((⟨([0,0,0]:List Int),([]:List nu)⟩:nr),())
def Ws[dE] :=Fg 222 Tryz.f222 [] [.st .machine] (λ_=>Nd) [] [] (by kernel_rfl) λx=>by simp only[Nd,tm];kernel_rfl
def P0(a0:nr):Option (nr×Unit):=
 iteP ((([]:List Int)++a0.objects).length*8<=2 ^ 40) (iteP ((([]:List nu)++a0.sessions).length*32<=2 ^ 40) (some ((⟨(([]:List Int)++a0.objects),(([]:List nu)++a0.sessions)⟩:nr),())) none) none
def aat[dE] :=Fg 223 Tryz.f223 [.ty (.st .machine)] [.st .machine] (λx=>P0 x.1) [] [] (by kernel_rfl) λx=>by simp only[P0,tm];kernel_rfl
abbrev N4:LX:=⟨⟨[LD,OC],[Yu],[],0,69⟩,[(.ret,⟨[LD,O3],[Yu],[],0,69⟩),(.ext 0,⟨[LD,NY],[Yu],[],0,69⟩)],[],[1,3],[1,2]⟩
def GM(s:UB×(adq×Unit)×Unit):N4.R:=
 br (decide (s.1.2.1<(s.2.1.1.1.length:Int))) (iteP (0<=s.1.2.1) ((s.2.1.1.1[s.1.2.1.toNat]?).bind λx4=>(EN x4 0 9).bind λy5=>br (!y5.1) (some (.inr (.inl (((),false,()),s.2.1,(()))))) (some (.inl (((),(aeq .i64 (s.1.2.1+1)),()),s.2.1,(()))))) none) (some (.inr (.inr (((),(),()),s.2.1,(())))))
def NT:=ny GM
def Rr[dE] :=H5 Tryz.f224 [0] N4 GM [FN] [] (by kernel_rfl) λs=>by simp only[GM,tm];kernel_rfl
abbrev N5:LX:=⟨⟨[LD,Of],[Yu],[],0,69⟩,[(.ret,⟨[LD,O3],[Yu],[],0,69⟩),(.ext 2,⟨[LD,NY],[Yu],[],0,69⟩)],[],[1,4],[1,2]⟩
def GN(s:UB×(adq×Unit)×Unit):N5.R:=
 br (decide (s.1.2.1<(s.2.1.1.2.1.length:Int))) (iteP (0<=s.1.2.1) ((s.2.1.1.2.1[s.1.2.1.toNat]?).bind λx10=>(EN x10.client 0 2).bind λy11=>br (!y11.1) (some (.inr (.inl (((),false,()),s.2.1,(()))))) ((EN x10.seq 1 99).bind λy12=>br (!y12.1) (some (.inr (.inl (((),false,()),s.2.1,(()))))) ((EN x10.result.value 0 9).bind λy13=>br (!y13.1) (some (.inr (.inl (((),false,()),s.2.1,(()))))) (br (decide (s.1.2.1>0)) (iteP (0<=(aeq .i64 (s.1.2.1-1))) ((s.2.1.1.2.1[(aeq .i64 (s.1.2.1-1)).toNat]?).bind λx14=>br (decide (x14.client≥x10.client)) (some (.inr (.inl (((),false,()),s.2.1,(()))))) (some (.inl (((),(aeq .i64 (s.1.2.1+1)),()),s.2.1,(()))))) none) (some (.inl (((),(aeq .i64 (s.1.2.1+1)),()),s.2.1,(())))))))) none) (some (.inr (.inr (((),(),()),s.2.1,(())))))
def KT:=ny GN
def Rs[dE] :=H5 Tryz.f224 [1] N5 GN [FN] [] (by kernel_rfl) λs=>by simp only[GN,tm];kernel_rfl
def GP(a0:nr):Option (Bool×Unit):=
 (NT (((),0,()),((a0.objects,a0.sessions,()),()),(()))).bind λe6=>Sum.elim (λe6_0=>some e6_0.1.2) (λe6_1=>(KT (((),0,()),e6_1.2.1,(()))).bind λe15=>Sum.elim (λe15_0=>some e15_0.1.2) (λe15_1=>some (((e15_1.2.1.1.1.length:Int)==3),())) e15) e6
def OW[dE] :=Fg 224 Tryz.f224 [.ty (.st .machine)] [.b] (λx=>GP x.1) [] [Rr,Rs] (by kernel_rfl) λx=>by simp only[GP,tm];kernel_rfl
abbrev Q8:LX:=⟨⟨[KG,Mc,Qg,Om],[Yu,aaP],[],0,28⟩,[(.ret,⟨[Qh,(5,.cl (.bl))],[aaP],[],0,28⟩),(.ext 0,⟨[Qh,(5,.cl (.dead))],[aaP],[],0,28⟩)],[],[1,2,4,6],[4,5]⟩
def Mj(s: (Int×Unit×Unit×Int×Unit)×(adq×(Int×Int×Bool×Int×Unit)×Unit)×Unit):Q8.R:=
 br (decide (s.1.2.2.2.1<(s.2.1.1.2.1.length:Int))) (iteP (0<=s.1.2.2.2.1) ((s.2.1.1.2.1[s.1.2.2.2.1.toNat]?).bind λx9=>br (x9.client==s.1.1) (iteP (0<=s.1.2.2.2.1) ((s.2.1.1.2.1[s.1.2.2.2.1.toNat]?).bind λx10=>some (.inr (.inl (((),true,()),((x10.client,x10.seq,x10.result.done,x10.result.value,()),()),(()))))) none) (some (.inl ((s.1.1,(),(),(aeq .i64 (s.1.2.2.2.1+1)),()),s.2.1,(()))))) none) (some (.inr (.inr (((),(),()),s.2.1.2,(())))))
def Vp:=ny Mj
def VI[dE] :=H5 Tryz.f225 [0] Q8 Mj [] [] (by kernel_rfl) λs=>by simp only[Mj,tm];kernel_rfl
def MD(a0:nr)(a1:Int):Option (nu×Bool×Unit):=
 (Vp ((a1,(),(),0,()),((a0.objects,a0.sessions,()),(0,0,false,0,()),()),(()))).bind λe11=>Sum.elim (λe11_0=>some ((⟨e11_0.2.1.1.1,e11_0.2.1.1.2.1,(⟨e11_0.2.1.1.2.2.1,e11_0.2.1.1.2.2.2.1⟩:Result)⟩:nu),e11_0.1.2)) (λ_=>some ((⟨0,0,(⟨false,0⟩:Result)⟩:nu),false,())) e11
def Xi[dE] :=Fg 225 Tryz.f225 acn [.st .session,.b] (λx=>MD x.1 x.2.1) [] [VI] (by kernel_rfl) λx=>by simp only[MD,tm];kernel_rfl
abbrev RY:LX:=⟨⟨[S6,Qg,(5,.cl (.ptr 2 0)),aaC,QZ,(11,.cl (.ptr 4 0)),Qi],[acX,[.em,.em],Y9,Za,Y9],abU,0,127⟩,[(.ext 0,⟨[S6,Qg,(5,.cl (.ptr 2 0)),aaC,QZ,(11,.cl (.ptr 4 0)),Qi],[acX,[.em,.em],Y9,Za,Y9],abU,0,127⟩)],[],[3,4,5,7,9,11,12],[3,4,5,7,9,11,12]⟩
def J4(s: (Unit×Unit×Unit×Unit×Bool×Unit×Int×Unit)×((Int×Int×Int×Int×Int×Int×Unit)×aaN×(Bool×Int×Unit)×aaN×(Bool×Int×Unit)×Unit)×List Int×List nu×Unit):RY.R:=
 br (decide (s.1.2.2.2.2.2.2.1<(s.2.2.2.1.length:Int))) (iteP (0<=s.1.2.2.2.2.2.2.1/\s.1.2.2.2.2.2.2.1<(s.2.2.2.1.length:Int)) ((s.2.2.2.1[s.1.2.2.2.2.2.2.1.toNat]?).bind λx22=>br (decide (x22.client<s.2.1.1.1)) (some (.inl (((),(),(),(),s.1.2.2.2.2.1,(),(aeq .i64 (s.1.2.2.2.2.2.2.1+1)),()),s.2))) (some (.inr s))) none) (some (.inr s))
def Nl:=ny J4
def WK[dE] :=H5 Tryz.f141 [0] RY J4 [] [] (by kernel_rfl) λs=>by simp only[J4,tm];kernel_rfl
def LU(a0:nr)(a1:Op):Option (nr×Result×Bool×Unit):=
 (P0 a0).bind λy1=>(GP a0).bind λy2=>br (!y2.1) (some (y1.1,(⟨false,0⟩:Result),false,())) ((FI a1).bind λy3=>br (!y3.1) (some (y1.1,(⟨false,0⟩:Result),false,())) ((MD a0 a1.client).bind λy4=>let j45:Option (nr×Result×Bool×Unit):=let j44:Option (nr×Result×Bool×Unit):=iteP (0<=a1.object) ((a0.objects[a1.object.toNat]?).bind λx5=>br (a1.kind==1) (iteP (0<=a1.object/\a1.object<(y1.1.objects.length:Int)) ((y1.1.objects[a1.object.toNat]?).bind λ_=>(Nl (((),(),(),(),y4.2.1,(),0,()),((a1.client,a1.seq,a1.kind,a1.object,a1.old,a1.value,()),((),(),()),(false,0,()),((),(),()),(true,x5,()),()),(y1.1.objects.set a1.object.toNat a1.value),y1.1.sessions,())).bind λe23=>iteP (0<=e23.1.2.2.2.2.2.2.1/\e23.1.2.2.2.2.2.2.1<=(e23.2.2.2.1.length:Int)/\(e23.2.2.2.1.length:Int)<=((e23.2.2.2.1.length:Nat):Int)) (br e23.1.2.2.2.2.1 (iteP (0<=(aeq .i64 (e23.1.2.2.2.2.2.2.1+1))/\(aeq .i64 (e23.1.2.2.2.2.2.2.1+1))<=(e23.2.2.2.1.length:Int)/\(e23.2.2.2.1.length:Int)<=((e23.2.2.2.1.length:Nat):Int)) (iteP (0<=(0:Int)/\(0:Int)<=e23.1.2.2.2.2.2.2.1/\e23.1.2.2.2.2.2.2.1<=((e23.2.2.2.1.length:Nat):Int)) (iteP ((0+(0:Int).toNat)+(e23.1.2.2.2.2.2.2.1.toNat-(0:Int).toNat)<=e23.2.2.2.1.length) (iteP ((([]:List nu)++((e23.2.2.2.1.drop (0+(0:Int).toNat)).take (e23.1.2.2.2.2.2.2.1.toNat-(0:Int).toNat))).length*32<=2 ^ 40) (iteP (((([]:List nu)++((e23.2.2.2.1.drop (0+(0:Int).toNat)).take (e23.1.2.2.2.2.2.2.1.toNat-(0:Int).toNat)))++([(⟨e23.2.1.1.1,e23.2.1.1.2.1,(⟨e23.2.1.2.2.2.2.1.1,e23.2.1.2.2.2.2.1.2.1⟩:Result)⟩:nu)]:List nu)).length*32<=2 ^ 40) (iteP ((0+(aeq .i64 (e23.1.2.2.2.2.2.2.1+1)).toNat)+((e23.2.2.2.1.length:Int).toNat-(aeq .i64 (e23.1.2.2.2.2.2.2.1+1)).toNat)<=e23.2.2.2.1.length) (iteP ((((([]:List nu)++((e23.2.2.2.1.drop (0+(0:Int).toNat)).take (e23.1.2.2.2.2.2.2.1.toNat-(0:Int).toNat)))++([(⟨e23.2.1.1.1,e23.2.1.1.2.1,(⟨e23.2.1.2.2.2.2.1.1,e23.2.1.2.2.2.2.1.2.1⟩:Result)⟩:nu)]:List nu))++((e23.2.2.2.1.drop (0+(aeq .i64 (e23.1.2.2.2.2.2.2.1+1)).toNat)).take ((e23.2.2.2.1.length:Int).toNat-(aeq .i64 (e23.1.2.2.2.2.2.2.1+1)).toNat))).length*32<=2 ^ 40) (some ((⟨e23.2.2.1,(((([]:List nu)++((e23.2.2.2.1.drop (0+(0:Int).toNat)).take (e23.1.2.2.2.2.2.2.1.toNat-(0:Int).toNat)))++([(⟨e23.2.1.1.1,e23.2.1.1.2.1,(⟨e23.2.1.2.2.2.2.1.1,e23.2.1.2.2.2.2.1.2.1⟩:Result)⟩:nu)]:List nu))++((e23.2.2.2.1.drop (0+(aeq .i64 (e23.1.2.2.2.2.2.2.1+1)).toNat)).take ((e23.2.2.2.1.length:Int).toNat-(aeq .i64 (e23.1.2.2.2.2.2.2.1+1)).toNat)))⟩:nr),(⟨e23.2.1.2.2.2.2.1.1,e23.2.1.2.2.2.2.1.2.1⟩:Result),true,())) none) none) none) none) none) none) none) (iteP (0<=(0:Int)/\(0:Int)<=e23.1.2.2.2.2.2.2.1/\e23.1.2.2.2.2.2.2.1<=((e23.2.2.2.1.length:Nat):Int)) (iteP ((0+(0:Int).toNat)+(e23.1.2.2.2.2.2.2.1.toNat-(0:Int).toNat)<=e23.2.2.2.1.length) (iteP ((([]:List nu)++((e23.2.2.2.1.drop (0+(0:Int).toNat)).take (e23.1.2.2.2.2.2.2.1.toNat-(0:Int).toNat))).length*32<=2 ^ 40) (iteP (((([]:List nu)++((e23.2.2.2.1.drop (0+(0:Int).toNat)).take (e23.1.2.2.2.2.2.2.1.toNat-(0:Int).toNat)))++([(⟨e23.2.1.1.1,e23.2.1.1.2.1,(⟨e23.2.1.2.2.2.2.1.1,e23.2.1.2.2.2.2.1.2.1⟩:Result)⟩:nu)]:List nu)).length*32<=2 ^ 40) (iteP ((0+e23.1.2.2.2.2.2.2.1.toNat)+((e23.2.2.2.1.length:Int).toNat-e23.1.2.2.2.2.2.2.1.toNat)<=e23.2.2.2.1.length) (iteP ((((([]:List nu)++((e23.2.2.2.1.drop (0+(0:Int).toNat)).take (e23.1.2.2.2.2.2.2.1.toNat-(0:Int).toNat)))++([(⟨e23.2.1.1.1,e23.2.1.1.2.1,(⟨e23.2.1.2.2.2.2.1.1,e23.2.1.2.2.2.2.1.2.1⟩:Result)⟩:nu)]:List nu))++((e23.2.2.2.1.drop (0+e23.1.2.2.2.2.2.2.1.toNat)).take ((e23.2.2.2.1.length:Int).toNat-e23.1.2.2.2.2.2.2.1.toNat))).length*32<=2 ^ 40) (some ((⟨e23.2.2.1,(((([]:List nu)++((e23.2.2.2.1.drop (0+(0:Int).toNat)).take (e23.1.2.2.2.2.2.2.1.toNat-(0:Int).toNat)))++([(⟨e23.2.1.1.1,e23.2.1.1.2.1,(⟨e23.2.1.2.2.2.2.1.1,e23.2.1.2.2.2.2.1.2.1⟩:Result)⟩:nu)]:List nu))++((e23.2.2.2.1.drop (0+e23.1.2.2.2.2.2.2.1.toNat)).take ((e23.2.2.2.1.length:Int).toNat-e23.1.2.2.2.2.2.2.1.toNat)))⟩:nr),(⟨e23.2.1.2.2.2.2.1.1,e23.2.1.2.2.2.2.1.2.1⟩:Result),true,())) none) none) none) none) none) none)) none) none) (let j43 (p26:List Int):Option (nr×Result×Bool×Unit):=(Nl (((),(),(),(),y4.2.1,(),0,()),((a1.client,a1.seq,a1.kind,a1.object,a1.old,a1.value,()),((),(),()),(false,0,()),((),(),()),((x5==a1.old),x5,()),()),p26,y1.1.sessions,())).bind λe42=>iteP (0<=e42.1.2.2.2.2.2.2.1/\e42.1.2.2.2.2.2.2.1<=(e42.2.2.2.1.length:Int)/\(e42.2.2.2.1.length:Int)<=((e42.2.2.2.1.length:Nat):Int)) (br e42.1.2.2.2.2.1 (iteP (0<=(aeq .i64 (e42.1.2.2.2.2.2.2.1+1))/\(aeq .i64 (e42.1.2.2.2.2.2.2.1+1))<=(e42.2.2.2.1.length:Int)/\(e42.2.2.2.1.length:Int)<=((e42.2.2.2.1.length:Nat):Int)) (iteP (0<=(0:Int)/\(0:Int)<=e42.1.2.2.2.2.2.2.1/\e42.1.2.2.2.2.2.2.1<=((e42.2.2.2.1.length:Nat):Int)) (iteP ((0+(0:Int).toNat)+(e42.1.2.2.2.2.2.2.1.toNat-(0:Int).toNat)<=e42.2.2.2.1.length) (iteP ((([]:List nu)++((e42.2.2.2.1.drop (0+(0:Int).toNat)).take (e42.1.2.2.2.2.2.2.1.toNat-(0:Int).toNat))).length*32<=2 ^ 40) (iteP (((([]:List nu)++((e42.2.2.2.1.drop (0+(0:Int).toNat)).take (e42.1.2.2.2.2.2.2.1.toNat-(0:Int).toNat)))++([(⟨e42.2.1.1.1,e42.2.1.1.2.1,(⟨e42.2.1.2.2.2.2.1.1,e42.2.1.2.2.2.2.1.2.1⟩:Result)⟩:nu)]:List nu)).length*32<=2 ^ 40) (iteP ((0+(aeq .i64 (e42.1.2.2.2.2.2.2.1+1)).toNat)+((e42.2.2.2.1.length:Int).toNat-(aeq .i64 (e42.1.2.2.2.2.2.2.1+1)).toNat)<=e42.2.2.2.1.length) (iteP ((((([]:List nu)++((e42.2.2.2.1.drop (0+(0:Int).toNat)).take (e42.1.2.2.2.2.2.2.1.toNat-(0:Int).toNat)))++([(⟨e42.2.1.1.1,e42.2.1.1.2.1,(⟨e42.2.1.2.2.2.2.1.1,e42.2.1.2.2.2.2.1.2.1⟩:Result)⟩:nu)]:List nu))++((e42.2.2.2.1.drop (0+(aeq .i64 (e42.1.2.2.2.2.2.2.1+1)).toNat)).take ((e42.2.2.2.1.length:Int).toNat-(aeq .i64 (e42.1.2.2.2.2.2.2.1+1)).toNat))).length*32<=2 ^ 40) (some ((⟨e42.2.2.1,(((([]:List nu)++((e42.2.2.2.1.drop (0+(0:Int).toNat)).take (e42.1.2.2.2.2.2.2.1.toNat-(0:Int).toNat)))++([(⟨e42.2.1.1.1,e42.2.1.1.2.1,(⟨e42.2.1.2.2.2.2.1.1,e42.2.1.2.2.2.2.1.2.1⟩:Result)⟩:nu)]:List nu))++((e42.2.2.2.1.drop (0+(aeq .i64 (e42.1.2.2.2.2.2.2.1+1)).toNat)).take ((e42.2.2.2.1.length:Int).toNat-(aeq .i64 (e42.1.2.2.2.2.2.2.1+1)).toNat)))⟩:nr),(⟨e42.2.1.2.2.2.2.1.1,e42.2.1.2.2.2.2.1.2.1⟩:Result),true,())) none) none) none) none) none) none) none) (iteP (0<=(0:Int)/\(0:Int)<=e42.1.2.2.2.2.2.2.1/\e42.1.2.2.2.2.2.2.1<=((e42.2.2.2.1.length:Nat):Int)) (iteP ((0+(0:Int).toNat)+(e42.1.2.2.2.2.2.2.1.toNat-(0:Int).toNat)<=e42.2.2.2.1.length) (iteP ((([]:List nu)++((e42.2.2.2.1.drop (0+(0:Int).toNat)).take (e42.1.2.2.2.2.2.2.1.toNat-(0:Int).toNat))).length*32<=2 ^ 40) (iteP (((([]:List nu)++((e42.2.2.2.1.drop (0+(0:Int).toNat)).take (e42.1.2.2.2.2.2.2.1.toNat-(0:Int).toNat)))++([(⟨e42.2.1.1.1,e42.2.1.1.2.1,(⟨e42.2.1.2.2.2.2.1.1,e42.2.1.2.2.2.2.1.2.1⟩:Result)⟩:nu)]:List nu)).length*32<=2 ^ 40) (iteP ((0+e42.1.2.2.2.2.2.2.1.toNat)+((e42.2.2.2.1.length:Int).toNat-e42.1.2.2.2.2.2.2.1.toNat)<=e42.2.2.2.1.length) (iteP ((((([]:List nu)++((e42.2.2.2.1.drop (0+(0:Int).toNat)).take (e42.1.2.2.2.2.2.2.1.toNat-(0:Int).toNat)))++([(⟨e42.2.1.1.1,e42.2.1.1.2.1,(⟨e42.2.1.2.2.2.2.1.1,e42.2.1.2.2.2.2.1.2.1⟩:Result)⟩:nu)]:List nu))++((e42.2.2.2.1.drop (0+e42.1.2.2.2.2.2.2.1.toNat)).take ((e42.2.2.2.1.length:Int).toNat-e42.1.2.2.2.2.2.2.1.toNat))).length*32<=2 ^ 40) (some ((⟨e42.2.2.1,(((([]:List nu)++((e42.2.2.2.1.drop (0+(0:Int).toNat)).take (e42.1.2.2.2.2.2.2.1.toNat-(0:Int).toNat)))++([(⟨e42.2.1.1.1,e42.2.1.1.2.1,(⟨e42.2.1.2.2.2.2.1.1,e42.2.1.2.2.2.2.1.2.1⟩:Result)⟩:nu)]:List nu))++((e42.2.2.2.1.drop (0+e42.1.2.2.2.2.2.2.1.toNat)).take ((e42.2.2.2.1.length:Int).toNat-e42.1.2.2.2.2.2.2.1.toNat)))⟩:nr),(⟨e42.2.1.2.2.2.2.1.1,e42.2.1.2.2.2.2.1.2.1⟩:Result),true,())) none) none) none) none) none) none)) none;br (x5==a1.old) (iteP (0<=a1.object/\a1.object<(y1.1.objects.length:Int)) ((y1.1.objects[a1.object.toNat]?).bind λ_=>j43 (y1.1.objects.set a1.object.toNat a1.value)) none) (j43 y1.1.objects))) none;br y4.2.1 (br (decide (y4.1.seq>a1.seq)) (some (y1.1,(⟨false,0⟩:Result),false,())) (j44)) (j44);br y4.2.1 (br (y4.1.seq==a1.seq) (some (y1.1,y4.1.result,true,())) (j45)) (j45)))
def Sd[dE] :=Fg 141 Tryz.f141 [.ty (.st .machine),.ty (.st .op)] [.st .machine,.st .result,.b] (λx=>LU x.1 x.2.1) [aat,OW,MM,Xi] [WK] (by kernel_rfl) λx=>by simp only[LU,tm];kernel_rfl
abbrev Q6:LX:=⟨⟨[Qk,Mc,Qg,Nm],[[.em,.em],Za],abU,0,29⟩,[(.ext 0,⟨[Mc,Qg],[[.em,.em],Za],abU,0,29⟩)],[],[0,2,4,5],[2,4]⟩
def Mh(s: (List rp×Unit×Unit×Int×Unit)×(aaN×aaN×Unit)×List Int×List nu×Unit):Q6.R:=
 br (decide (s.1.2.2.2.1<(s.1.1.length:Int))) (iteP (0<=s.1.2.2.2.1) ((s.1.1[s.1.2.2.2.1.toNat]?).bind λx7=>(LU (⟨s.2.2.1,s.2.2.2.1⟩:nr) x7.op).bind λy8=>some (.inl ((s.1.1,(),(),(aeq .i64 (s.1.2.2.2.1+1)),()),(((),(),()),((),(),()),()),y8.1.objects,y8.1.sessions,()))) none) (some (.inr (((),(),()),s.2)))
def Vn:=ny Mh
def VG[dE] :=H5 Tryz.f140 [0] Q6 Mh [Sd] [] (by kernel_rfl) λs=>by simp only[Mh,tm];kernel_rfl
def JR(a0:List rp):Option (nr×Bool×Unit):=
 (Nd).bind λy1=>(FE a0).bind λy2=>br (!y2.1) (some ((⟨([]:List Int),([]:List nu)⟩:nr),false,())) ((Vn ((a0,(),(),0,()),(((),(),()),((),(),()),()),y1.1.objects,y1.1.sessions,())).bind λe9=>some ((⟨e9.2.2.1,e9.2.2.2.1⟩:nr),true,()))
def P8[dE] :=Fg 140 Tryz.f140 RU [.st .machine,.b] (λx=>JR x.1) [Ws,Nk] [VG] (by kernel_rfl) λx=>by simp only[JR,tm];kernel_rfl
def IG(a0:Op):Option (Bool×Unit):=
 some ((a0.kind==2),())
def QT[dE] :=Fg 142 Tryz.f142 Xt [.b] (λx=>IG x.1) [] [] (by kernel_rfl) λx=>by simp only[IG,tm];kernel_rfl
def FZ(a0:qh)(a1:Int):Option (Bool×Unit):=
 (ED a0).bind λy1=>br y1.1 ((EN a1 0 4).bind λy2=>br y2.1 (iteP (0<=a1) ((a0.servers[a1.toNat]?).bind λx3=>(EV x3 a1).bind λy4=>some (y4.1,())) none) (some (false,()))) (some (false,()))
def Lt[dE] :=Fg 197 Tryz.f197 Kl [.b] (λx=>FZ x.1 x.2.1) [ES,FN,JV] [] (by kernel_rfl) λx=>by simp only[FZ,tm];kernel_rfl
abbrev O8:LX:=⟨⟨[OD,QX,NZ,Om],[],Jl,0,34⟩,[(.ext 0,⟨[QX,NZ],[],Jl,0,34⟩)],[],[0,1,5,6],[1,5]⟩
def HU(s:adp×Unit×List Int×Unit):O8.R:=
 br (decide (s.1.2.2.2.1<(s.1.1.length:Int))) (iteP (0<=s.1.2.2.2.1) ((s.1.1[s.1.2.2.2.1.toNat]?).bind λx5=>(IM s.2.2.1 x5).bind λy6=>some (.inl ((s.1.1,s.1.2.1,(),(aeq .i64 (s.1.2.2.2.1+1)),()),(()),y6.1,()))) none) (some (.inr ((s.1.2.1,(),()),(()),s.2.2)))
def O0:=ny HU
def SB[dE] :=H5 Tryz.f129 [0] O8 HU [Pq] [] (by kernel_rfl) λs=>by simp only[HU,tm];kernel_rfl
abbrev O9:LX:=⟨⟨[QX,NZ,PN],[],Jl,0,34⟩,[(.ext 2,⟨[NZ],[],Jl,0,34⟩)],[],[1,5,7],[5]⟩
def HV(s:acN×Unit×List Int×Unit):O9.R:=
 br (decide (s.1.2.2.1<(s.1.1.length:Int))) (iteP (0<=s.1.2.2.1) ((s.1.1[s.1.2.2.1.toNat]?).bind λx11=>(IM s.2.2.1 x11).bind λy12=>some (.inl ((s.1.1,(),(aeq .i64 (s.1.2.2.1+1)),()),(()),y12.1,()))) none) (some (.inr (((),()),(()),s.2.2)))
def O1:=ny HV
def SC[dE] :=H5 Tryz.f129 [1] O9 HV [Pq] [] (by kernel_rfl) λs=>by simp only[HV,tm];kernel_rfl
def I5(a0:List Int)(a1:List Int):Option ((List Int)×Unit):=
 (O0 ((a0,a1,(),0,()),(()),([]:List Int),())).bind λe7=>(O1 ((e7.1.1,(),0,()),(()),e7.2.2)).bind λe13=>some e13.2.2
def Un[dE] :=Fg 129 Tryz.f129 Vq K4 (λx=>I5 x.1 x.2.1) [] [SB,SC] (by kernel_rfl) λx=>by simp only[I5,tm];kernel_rfl
def Fd(a0:nG):Option ((List Int)×Unit):=
 (EH a0).bind λy1=>br (!y1.1) (some (([]:List Int),())) ((I5 a0.replicas a0.witnesses).bind λy2=>some (y2.1,()))
def Jb[dE] :=Fg 40 Tryz.f40 Yq K4 (λx=>Fd x.1) [KN,Un] [] (by kernel_rfl) λx=>by simp only[Fd,tm];kernel_rfl
abbrev PH:LX:=⟨⟨[Mc,Nm,YY,PN],[JZ],Jl,0,37⟩,[(.ext 0,⟨[Nm],[],[],0,37⟩)],[],[2,5,6,7],[5]⟩
def KI(s:acO×(Nn×Unit)×List Int×Unit):PH.R:=
 br (decide (s.1.2.2.2.1<(s.2.2.1.length:Int))) (iteP (0<=s.1.2.2.2.1/\s.1.2.2.2.1<(s.2.2.1.length:Int)) ((s.2.2.1[s.1.2.2.2.1.toNat]?).bind λx17=>iteP (0<=x17) ((s.2.1.1.2.1[x17.toNat]?).bind λx18=>some (.inl (((),(if x18.version<s.1.2.1 then x18.version else s.1.2.1),(),(aeq .i64 (s.1.2.2.2.1+1)),()),s.2))) none) none) (some (.inr ((s.1.2.1,()),(()),(()))))
def Tw:=ny KI
def TD[dE] :=H5 Tryz.f143 [0] PH KI [] [] (by kernel_rfl) λs=>by simp only[KI,tm];kernel_rfl
def Ku(a0:qh)(a1:Int):Option (Int×Unit):=
 (FZ a0 a1).bind λy1=>br (!y1.1) (some (0,())) (iteP (0<=a1) ((a0.servers[a1.toNat]?).bind λx2=>(Fd x2.config).bind λy3=>(Tw (((),2,(),0,()),((a0.now,a0.servers,a0.sides,a0.master.configs,a0.master.activated,a0.masterUp,a0.lease.epoch,a0.lease.holder,a0.lease.ends,a0.places,()),()),y3.1,())).bind λe19=>some e19.1) none)
def Ve[dE] :=Fg 143 Tryz.f143 Kl JJ (λx=>Ku x.1 x.2.1) [Lt,Jb] [TD] (by kernel_rfl) λx=>by simp only[Ku,tm];kernel_rfl
def Iw(a0:qh)(a1:Int)(a2:Op):Option (qh×Int×Unit):=
 (Fz a0).bind λy1=>(ED a0).bind λy2=>br (!y2.1) (some (y1.1,1,())) ((EN a1 0 4).bind λy3=>br (!y3.1) (some (y1.1,1,())) ((FI a2).bind λy4=>br (!y4.1) (some (y1.1,1,())) (iteP (0<=a1) ((a0.servers[a1.toNat]?).bind λx5=>br (!x5.up) (some (y1.1,2,())) ((EV x5 a1).bind λy6=>br (!y6.1) (some (y1.1,3,())) ((OK x5.log a2.client a2.seq).bind λy7=>let j18:Option (qh×Int×Unit):=(JR x5.log).bind λy9=>(LU y9.1 a2).bind λy10=>br (!y10.2.2.1) (some (y1.1,11,())) ((IG a2).bind λy11=>let j17:Option (qh×Int×Unit):=iteP (0<=a1/\a1<(y1.1.servers.length:Int)) ((y1.1.servers[a1.toNat]?).bind λx13=>(y1.1.servers[a1.toNat]?).bind λx14=>iteP ((0:Nat)=0) (iteP (x14.log.length<x13.log.length) none (iteP ((x14.log.take x13.log.length++([(⟨x5.epoch,a2⟩:rp)]:List rp)).length*56<=2 ^ 40) (iteP (0<=a1/\a1<(y1.1.servers.length:Int)) ((y1.1.servers[a1.toNat]?).bind λx15=>iteP (a1.toNat=a1.toNat) (some ((⟨y1.1.now,(y1.1.servers.set a1.toNat (⟨x15.up,x15.intact,x15.version,x15.epoch,x15.config,x15.first,(x14.log.take x13.log.length++([(⟨x5.epoch,a2⟩:rp)]:List rp)),x15.commit,x15.learned⟩:qk)),y1.1.sides,y1.1.master,y1.1.masterUp,y1.1.lease,y1.1.places⟩:qh),0,())) none) none) none)) none) none;br y11.1 ((Ku a0 a1).bind λy12=>br (decide (y12.1<2)) (some (y1.1,6,())) (br ((x5.log.length:Int)==16) (some (y1.1,5,())) (j17))) (br ((x5.log.length:Int)==16) (some (y1.1,5,())) (j17)));br (decide (y7.1≥0)) (iteP (0<=y7.1) ((x5.log[y7.1.toNat]?).bind λx8=>br (!((x8.op.client==a2.client)&&((x8.op.seq==a2.seq)&&((x8.op.kind==a2.kind)&&((x8.op.object==a2.object)&&((x8.op.old==a2.old)&&((x8.op.value==a2.value)&&true))))))) (some (y1.1,11,())) (br (decide (y7.1≥0)) (some (y1.1,0,())) (j18))) none) (br (decide (y7.1≥0)) (some (y1.1,0,())) (j18))))) none)))
def RK[dE] :=Fg 43 Tryz.f43 aco OE (λx=>Iw x.1 x.2.1 x.2.2.1) [F4,ES,FN,MM,JV,Xe,P8,Sd,QT,Ve] [] (by kernel_rfl) λx=>by simp only[Iw,tm,-eq_self];kernel_rfl
def F5(a0:List Int)(a1:Int)(a2:Int):Option (Bool×Unit):=
 (HD a0).bind λy1=>br y1.1 ((EN a1 0 4).bind λy2=>br y2.1 ((EN a2 0 4).bind λy3=>br y3.1 (iteP (0<=a1) ((a0[a1.toNat]?).bind λx4=>iteP (0<=a2) ((a0[a2.toNat]?).bind λx5=>some ((x4==x5),())) none) none) (some (false,()))) (some (false,()))) (some (false,()))
def L5[dE] :=Fg 182 Tryz.f182 aaz [.b] (λx=>F5 x.1 x.2.1 x.2.2.1) [Pp,FN] [] (by kernel_rfl) λx=>by simp only[F5,tm];kernel_rfl
def Fw(a0:qh)(a1:Int)(a2:Int):Option (Bool×Unit):=
 iteP (0<=a2) ((a0.servers[a2.toNat]?).bind λx1=>(F5 a0.sides a1 a2).bind λy2=>br y2.1 (br x1.up (iteP (0<=a1) ((a0.servers[a1.toNat]?).bind λx3=>br (x1.epoch==x3.epoch) (iteP (0<=a1) ((a0.servers[a1.toNat]?).bind λx4=>br (decide (x1.commit<=(x4.log.length:Int))) (iteP (0<=a1) ((a0.servers[a1.toNat]?).bind λx5=>(GX x1.config x5.config).bind λy6=>some (y6.1,())) none) (some (false,()))) none) (some (false,()))) none) (some (false,()))) (some (false,()))) none
def Uo[dE] :=Fg 73 Tryz.f73 Su [.b] (λx=>Fw x.1 x.2.1 x.2.2.1) [L5,Ls] [] (by kernel_rfl) λx=>by simp only[Fw,tm];kernel_rfl
def QD(a0:List rp):Option (Int×(List rp)×Unit):=
 (FE a0).bind λy1=>br (!y1.1) (some (0,([]:List rp),())) (iteP (0<=(if(aeq .i64 ((a0.length:Int)-3))>0 then(aeq .i64 ((a0.length:Int)-3))else 0)/\(if(aeq .i64 ((a0.length:Int)-3))>0 then(aeq .i64 ((a0.length:Int)-3))else 0)<=(a0.length:Int)/\(a0.length:Int)<=(a0.length:Int)) ((Gt ((a0.drop (if(aeq .i64 ((a0.length:Int)-3))>0 then(aeq .i64 ((a0.length:Int)-3))else 0).toNat).take ((a0.length:Int).toNat-(if(aeq .i64 ((a0.length:Int)-3))>0 then(aeq .i64 ((a0.length:Int)-3))else 0).toNat))).bind λy2=>some ((if(aeq .i64 ((a0.length:Int)-3))>0 then(aeq .i64 ((a0.length:Int)-3))else 0),y2.1,())) none)
def Zv[dE] :=Fg 265 Tryz.f265 RU aaO (λx=>QD x.1) [Nk,KA] [] (by kernel_rfl) λx=>by simp only[QD,tm];kernel_rfl
def PZ(a0:List rp):Option (Int×(List rp)×Unit):=
 (QD a0).bind λy1=>some (y1.1,y1.2.1,())
def aar[dE] :=Fg 243 Tryz.f243 RU aaO (λx=>PZ x.1) [Zv] [] (by kernel_rfl) λx=>by simp only[PZ,tm];kernel_rfl
def Ff(a0:qh)(a1:Int)(a2:Int):Option (qh×Bool×Unit):=
 (Fz a0).bind λy1=>(FZ a0 a1).bind λy2=>br (!y2.1) (some (y1.1,false,())) (iteP (0<=a1) ((a0.servers[a1.toNat]?).bind λx3=>(Fd x3.config).bind λy4=>(FH y4.1 a2).bind λy5=>br (!y5.1) (some (y1.1,false,())) ((Fw a0 a1 a2).bind λy6=>br (!y6.1) (some (y1.1,false,())) (iteP (0<=a1) ((a0.servers[a1.toNat]?).bind λx7=>iteP (0<=a1) ((a0.servers[a1.toNat]?).bind λx8=>(Fm x8.config a2).bind λy9=>br (y9.1==3) ((PZ x7.log).bind λy10=>iteP (0<=a2/\a2<(y1.1.servers.length:Int)) (iteP (0<=a2/\a2<(y1.1.servers.length:Int)) ((y1.1.servers[a2.toNat]?).bind λx11=>let z12:=y1.1.servers.set a2.toNat (⟨x11.up,x11.intact,x11.version,x11.epoch,x11.config,y10.1,x11.log,x11.commit,x11.learned⟩:qk);(z12[a2.toNat]?).bind λx13=>some ((⟨y1.1.now,(z12.set a2.toNat (⟨x13.up,x13.intact,x13.version,x13.epoch,x13.config,x13.first,y10.2.1,x13.commit,x13.learned⟩:qk)),y1.1.sides,y1.1.master,y1.1.masterUp,y1.1.lease,y1.1.places⟩:qh),true,())) none) none) ((Gt x7.log).bind λy15=>iteP (0<=a2/\a2<(y1.1.servers.length:Int)) ((y1.1.servers[a2.toNat]?).bind λx16=>some ((⟨y1.1.now,(y1.1.servers.set a2.toNat (⟨x16.up,x16.intact,x16.version,x16.epoch,x16.config,x16.first,y15.1,x16.commit,x16.learned⟩:qk)),y1.1.sides,y1.1.master,y1.1.masterUp,y1.1.lease,y1.1.places⟩:qh),true,())) none)) none) none))) none)
def Ul[dE] :=Fg 198 Tryz.f198 Su Y4 (λx=>Ff x.1 x.2.1 x.2.2.1) [F4,Lt,Jb,HP,Uo,OX,aar,KA] [] (by kernel_rfl) λx=>by simp only[Ff,tm];kernel_rfl
abbrev LH:LX:=⟨⟨[KG,Qh,PO,Xw,RV,(9,.cl (.int .i64))],[K5,Vu],Xy,0,74⟩,[(.ext 0,⟨[KG,Qh,PO,Xw,RV],[K5,Vu],Xy,0,74⟩)],[],[1,4,6,7,8,9],[1,4,6,7,8]⟩
def F6(s:aaK×(LL×LL×Unit)×List Int×List qk×List Int×List nG×List uQ×Unit):LH.R:=
 br (decide (s.1.2.2.2.2.2.1<(s.2.2.1.length:Int))) (iteP (0<=s.1.2.2.2.2.2.1/\s.1.2.2.2.2.2.1<(s.2.2.1.length:Int)) ((s.2.2.1[s.1.2.2.2.2.2.1.toNat]?).bind λx25=>(Ff (⟨s.2.1.2.1.1,s.2.2.2.1,s.2.2.2.2.1,(⟨s.2.2.2.2.2.1,s.2.1.2.1.2.2.2.2.1⟩:jZ),s.2.1.2.1.2.2.2.2.2.1,(⟨s.2.1.2.1.2.2.2.2.2.2.1,s.2.1.2.1.2.2.2.2.2.2.2.1,s.2.1.2.1.2.2.2.2.2.2.2.2.1⟩:uN),s.2.2.2.2.2.2.1⟩:qh) s.1.1 x25).bind λy26=>let j28 (p27:Bool):LH.R:=some (.inl ((s.1.1,(),(),(),p27,(aeq .i64 (s.1.2.2.2.2.2.1+1)),()),(s.2.1.1,(y26.1.now,(),(),(),y26.1.master.activated,y26.1.masterUp,y26.1.lease.epoch,y26.1.lease.holder,y26.1.lease.ends,(),()),()),s.2.2.1,y26.1.servers,y26.1.sides,y26.1.master.configs,y26.1.places,()));br s.1.2.2.2.2.1 (j28 y26.2.1) (j28 false)) none) (some (.inr ((s.1.1,(),(),(),s.1.2.2.2.2.1,()),s.2)))
def Oj:=ny F6
def R5[dE] :=H5 Tryz.f96 [0] LH F6 [Ul] [] (by kernel_rfl) λs=>by simp only[F6,tm];kernel_rfl
abbrev N2:LX:=⟨⟨[KG,Qh,PO,Xw,RV,Qi],[K5,Vu],Xy,0,74⟩,[(.ext 2,⟨[Qh,PO,RV],[K5,WH],Yw,0,74⟩)],[],[1,4,6,7,8,12],[4,6,8]⟩
def Fq(s:aaK×(LL×LL×Unit)×List Int×List qk×List Int×List nG×List uQ×Unit):N2.R:=
 br (decide (s.1.2.2.2.2.2.1<(s.2.2.1.length:Int))) (br s.1.2.2.2.2.1 (iteP (0<=s.1.2.2.2.2.2.1/\s.1.2.2.2.2.2.1<(s.2.2.1.length:Int)) ((s.2.2.1[s.1.2.2.2.2.2.1.toNat]?).bind λx50=>iteP (0<=s.1.1/\s.1.1<(s.2.2.2.1.length:Int)) ((s.2.2.2.1[s.1.1.toNat]?).bind λx51=>iteP (0<=x50/\x50<(s.2.2.2.1.length:Int)) ((s.2.2.2.1[x50.toNat]?).bind λx52=>some (.inl ((s.1.1,(),(),(),s.1.2.2.2.2.1,(aeq .i64 (s.1.2.2.2.2.2.1+1)),()),s.2.1,s.2.2.1,(s.2.2.2.1.set x50.toNat (⟨x52.up,x52.intact,x52.version,x52.epoch,x52.config,x52.first,x52.log,((x51.log.length:Nat):Int),x52.learned⟩:qk)),s.2.2.2.2))) none) none) none) (some (.inr (((),(),s.1.2.2.2.2.1,()),s.2.1,s.2.2.2)))) (some (.inr (((),(),s.1.2.2.2.2.1,()),s.2.1,s.2.2.2)))
def KS:=ny Fq
def Rp[dE] :=H5 Tryz.f96 [1] N2 Fq [] [] (by kernel_rfl) λs=>by simp only[Fq,tm];kernel_rfl
def Fr(a0:qh)(a1:Int):Option (qh×Bool×Unit):=
 (Fz a0).bind λy1=>(FZ a0 a1).bind λy2=>br (!y2.1) (some (y1.1,false,())) (iteP (0<=a1) ((a0.servers[a1.toNat]?).bind λx3=>(Fd x3.config).bind λy4=>(Oj ((a1,(),(),(),true,0,()),((0,(),(),(),0,0,0,0,0,(),()),(y1.1.now,(),(),(),y1.1.master.activated,y1.1.masterUp,y1.1.lease.epoch,y1.1.lease.holder,y1.1.lease.ends,(),()),()),y4.1,y1.1.servers,y1.1.sides,y1.1.master.configs,y1.1.places,())).bind λe29=>(KS ((e29.1.1,(),(),(),e29.1.2.2.2.2.1,0,()),e29.2)).bind λe54=>some ((⟨e54.2.1.2.1.1,e54.2.2.1,e54.2.2.2.1,(⟨e54.2.2.2.2.1,e54.2.1.2.1.2.2.2.2.1⟩:jZ),e54.2.1.2.1.2.2.2.2.2.1,(⟨e54.2.1.2.1.2.2.2.2.2.2.1,e54.2.1.2.1.2.2.2.2.2.2.2.1,e54.2.1.2.1.2.2.2.2.2.2.2.2.1⟩:uN),e54.2.2.2.2.2.1⟩:qh),e54.1.2.2)) none)
def Pw[dE] :=Fg 96 Tryz.f96 Kl Y4 (λx=>Fr x.1 x.2.1) [F4,Lt,Jb] [R5,Rp] (by kernel_rfl) λx=>by simp only[Fr,tm];kernel_rfl
def LY(a0:List rp)(a1:Int):Option (Result×Bool×Unit):=
 (FE a0).bind λy1=>br (!y1.1) (some ((⟨false,0⟩:Result),false,())) ((EN a1 0 (aeq .i64 ((a0.length:Int)-1))).bind λy2=>br (!y2.1) (some ((⟨false,0⟩:Result),false,())) (iteP (0<=(0:Int)/\(0:Int)<=a1/\a1<=(a0.length:Int)) ((JR ((a0.drop (0:Int).toNat).take (a1.toNat-(0:Int).toNat))).bind λy3=>iteP (0<=a1) ((a0[a1.toNat]?).bind λx4=>(LU y3.1 x4.op).bind λy5=>some (y5.2.1,y5.2.2.1,())) none) none))
def Yc[dE] :=Fg 288 Tryz.f288 aaA [.st .result,.b] (λx=>LY x.1 x.2.1) [Nk,FN,P8,Sd] [] (by kernel_rfl) λx=>by simp only[LY,tm];kernel_rfl
def NB(a0:qh)(a1:Int)(a2:Op):Option (qh×wX×Unit):=
 (Iw a0 a1 a2).bind λy1=>br (!(y1.2.1==0)) (some (y1.1,(⟨y1.2.1,(⟨false,0⟩:Result),0⟩:wX),())) (iteP (0<=a1/\a1<(y1.1.servers.length:Int)) ((y1.1.servers[a1.toNat]?).bind λx2=>(y1.1.servers[a1.toNat]?).bind λx3=>iteP (0+x2.log.length<=x3.log.length) ((OK ((x3.log.drop 0).take x2.log.length) a2.client a2.seq).bind λy4=>iteP (0<=a1/\a1<(y1.1.servers.length:Int)) ((y1.1.servers[a1.toNat]?).bind λx5=>br (decide (y4.1≥x5.commit)) ((Fr y1.1 a1).bind λy6=>br (!y6.2.1) (some (y6.1,(⟨4,(⟨false,0⟩:Result),0⟩:wX),())) (iteP (0<=a1/\a1<(y6.1.servers.length:Int)) ((y6.1.servers[a1.toNat]?).bind λx20=>(y6.1.servers[a1.toNat]?).bind λx21=>iteP (0+x20.log.length<=x21.log.length) ((LY ((x21.log.drop 0).take x20.log.length) y4.1).bind λy22=>some (y6.1,(⟨0,y22.1,y4.1⟩:wX),())) none) none)) (iteP (0<=a1/\a1<(y1.1.servers.length:Int)) ((y1.1.servers[a1.toNat]?).bind λx23=>(y1.1.servers[a1.toNat]?).bind λx24=>iteP (0+x23.log.length<=x24.log.length) ((LY ((x24.log.drop 0).take x23.log.length) y4.1).bind λy25=>some (y1.1,(⟨0,y25.1,y4.1⟩:wX),())) none) none)) none) none) none)
def X7[dE] :=Fg 271 Tryz.f271 aco acU (λx=>NB x.1 x.2.1 x.2.2.1) [RK,Xe,Pw,Yc] [] (by kernel_rfl) λx=>by simp only[NB,tm];kernel_rfl
def K2(a0:qh)(a1:Int):Option (Int×Unit):=
 (ED a0).bind λy1=>br (!y1.1) (some (1,())) ((EN a1 0 4).bind λy2=>br (!y2.1) (some (1,())) (iteP (0<=a1) ((a0.servers[a1.toNat]?).bind λx3=>br (!x3.up) (some (2,())) (some (0,()))) none))
def ST[dE] :=Fg 174 Tryz.f174 Kl JJ (λx=>K2 x.1 x.2.1) [ES,FN] [] (by kernel_rfl) λx=>by simp only[K2,tm];kernel_rfl
def Lh(a0:uN)(a1:Int)(a2:Int)(a3:Int):Option (Bool×Unit):=
 (Hk a0).bind λy1=>br y1.1 ((EN a3 0 999).bind λy2=>br y2.1 (br (decide (a0.ends>0)) (br (a0.epoch==a1) (br (a0.holder==a2) (some ((decide ((aeq .i64 (a3+3))<a0.ends)),())) (some (false,()))) (some (false,()))) (some (false,()))) (some (false,()))) (some (false,()))
def Wm[dE] :=Fg 305 Tryz.f305 [.ty (.st .lease),.ty (.i .i64),.ty (.i .i64),.ty (.i .i64)] [.b] (λx=>Lh x.1 x.2.1 x.2.2.1 x.2.2.2.1) [OV,FN] [] (by kernel_rfl) λx=>by simp only[Lh,tm];kernel_rfl
def I2(a0:qh)(a1:Int):Option (Bool×Unit):=
 (FZ a0 a1).bind λy1=>br y1.1 (iteP (0<=a1) ((a0.servers[a1.toNat]?).bind λx2=>(Lh a0.lease x2.config.epoch a1 a0.now).bind λy3=>some (y3.1,())) none) (some (false,()))
def Se[dE] :=Fg 289 Tryz.f289 Kl [.b] (λx=>I2 x.1 x.2.1) [Lt,Wm] [] (by kernel_rfl) λx=>by simp only[I2,tm];kernel_rfl
def Fl(a0:qk):Option ((List rp)×Unit):=
 (EN a0.commit a0.first (aeq .i64 (a0.first+(a0.log.length:Int)))).bind λy1=>br (!y1.1) (some (([]:List rp),())) (br (decide (a0.first<0)) (some (([]:List rp),())) (iteP (0<=(0:Int)/\(0:Int)<=(aeq .i64 (a0.commit-a0.first))/\(aeq .i64 (a0.commit-a0.first))<=(a0.log.length:Int)) ((Gt ((a0.log.drop (0:Int).toNat).take ((aeq .i64 (a0.commit-a0.first)).toNat-(0:Int).toNat))).bind λy2=>some (y2.1,())) none))
def Jv[dE] :=Fg 31 Tryz.f31 VV Vt (λx=>Fl x.1) [FN,KA] [] (by kernel_rfl) λx=>by simp only[Fl,tm];kernel_rfl
def Ln(a0:nr)(a1:Int):Option (Int×Bool×Unit):=
 (GP a0).bind λy1=>br (!y1.1) (some (0,false,())) ((EN a1 0 2).bind λy2=>br (!y2.1) (some (0,false,())) (iteP (0<=a1) ((a0.objects[a1.toNat]?).bind λx3=>some (x3,true,())) none))
def Wt[dE] :=Fg 306 Tryz.f306 acn [.i .i64,.b] (λx=>Ln x.1 x.2.1) [OW,FN] [] (by kernel_rfl) λx=>by simp only[Ln,tm];kernel_rfl
def NH(a0:qk)(a1:Int):Option (wX×Unit):=
 (Fl a0).bind λy1=>(JR y1.1).bind λy2=>(Ln y2.1 a1).bind λy3=>some ((⟨0,(⟨true,y3.1⟩:Result),a0.commit⟩:wX),())
def Yf[dE] :=Fg 290 Tryz.f290 Vr [.st .reply] (λx=>NH x.1 x.2.1) [Jv,P8,Wt] [] (by kernel_rfl) λx=>by simp only[NH,tm];kernel_rfl
def MB(a0:qh)(a1:Int)(a2:Int):Option (wX×Unit):=
 (K2 a0 a1).bind λy1=>br (!(y1.1==0)) (some ((⟨y1.1,(⟨false,0⟩:Result),0⟩:wX),())) ((EN a2 0 2).bind λy2=>br (!y2.1) (some ((⟨1,(⟨false,0⟩:Result),0⟩:wX),())) (iteP (0<=a1) ((a0.servers[a1.toNat]?).bind λx3=>(EV x3 a1).bind λy4=>br (!y4.1) (some ((⟨3,(⟨false,0⟩:Result),0⟩:wX),())) ((I2 a0 a1).bind λy5=>br (!y5.1) (some ((⟨7,(⟨false,0⟩:Result),0⟩:wX),())) (iteP (0<=a1) ((a0.servers[a1.toNat]?).bind λx6=>(NH x6 a2).bind λy7=>some (y7.1,())) none))) none))
def Xg[dE] :=Fg 272 Tryz.f272 Su [.st .reply] (λx=>MB x.1 x.2.1 x.2.2.1) [ST,FN,JV,Se,Yf] [] (by kernel_rfl) λx=>by simp only[MB,tm];kernel_rfl
def LZ(a0:uN):Option (Int×Unit):=
 (Hk a0).bind λy1=>br (!y1.1) (some (0,())) (br (a0.ends==0) (some (0,())) (some ((aeq .i64 (a0.ends+3)),())))
def Um[dE] :=Fg 58 Tryz.f58 YV JJ (λx=>LZ x.1) [OV] [] (by kernel_rfl) λx=>by simp only[LZ,tm];kernel_rfl
def IH(a0:uN)(a1:Int):Option (Bool×Unit):=
 (Hk a0).bind λy1=>br y1.1 ((EN a1 0 999).bind λy2=>br y2.1 ((LZ a0).bind λy3=>some ((decide (a1≥y3.1)),())) (some (false,()))) (some (false,()))
def QU[dE] :=Fg 116 Tryz.f116 acp [.b] (λx=>IH x.1 x.2.1) [OV,FN,Um] [] (by kernel_rfl) λx=>by simp only[IH,tm];kernel_rfl
def Lf(a0:uN)(a1:Int)(a2:Int)(a3:Int)(a4:Int):Option (uN×Bool×Unit):=
 br (a0.epoch==a1) ((Hk a0).bind λy1=>br (!y1.1) (some (a0,false,())) ((EN a1 1 20).bind λy2=>br (!y2.1) (some (a0,false,())) ((EN a2 0 4).bind λy3=>br (!y3.1) (some (a0,false,())) ((EN a3 0 999).bind λy4=>br (!y4.1) (some (a0,false,())) ((EN a4 1 50).bind λy5=>br (!y5.1) (some (a0,false,())) ((IH a0 a3).bind λy6=>br (!y6.1) (br (!(a0.holder==a2)) (some (a0,false,())) (br (a0.holder==a2) (some ((⟨a1,a2,(if a0.ends>(aeq .i64 (a3+a4))then a0.ends else(aeq .i64 (a3+a4)))⟩:uN),true,())) (some ((⟨a1,a2,(aeq .i64 (a3+a4))⟩:uN),true,())))) (br (a0.holder==a2) (some ((⟨a1,a2,(if a0.ends>(aeq .i64 (a3+a4))then a0.ends else(aeq .i64 (a3+a4)))⟩:uN),true,())) (some ((⟨a1,a2,(aeq .i64 (a3+a4))⟩:uN),true,()))))))))) ((Hk a0).bind λy10=>br (!y10.1) (some (a0,false,())) ((EN a1 1 20).bind λy11=>br (!y11.1) (some (a0,false,())) ((EN a2 0 4).bind λy12=>br (!y12.1) (some (a0,false,())) ((EN a3 0 999).bind λy13=>br (!y13.1) (some (a0,false,())) ((EN a4 1 50).bind λy14=>br (!y14.1) (some (a0,false,())) ((IH a0 a3).bind λy15=>br (!y15.1) (br (!false) (some (a0,false,())) (some ((⟨a1,a2,(aeq .i64 (a3+a4))⟩:uN),true,()))) (some ((⟨a1,a2,(aeq .i64 (a3+a4))⟩:uN),true,()))))))))
def Wl[dE] :=Fg 175 Tryz.f175 [.ty (.st .lease),.ty (.i .i64),.ty (.i .i64),.ty (.i .i64),.ty (.i .i64)] [.st .lease,.b] (λx=>Lf x.1 x.2.1 x.2.2.1 x.2.2.2.1 x.2.2.2.2.1) [OV,FN,QU] [] (by kernel_rfl) λx=>by simp only[Lf,tm];kernel_rfl
def Ka(a0:qh)(a1:Int)(a2:Int):Option (qh×Int×Unit):=
 (Fz a0).bind λy1=>(K2 a0 a1).bind λy2=>br (!(y2.1==0)) (some (y1.1,y2.1,())) (iteP (0<=a1) ((a0.servers[a1.toNat]?).bind λx3=>(EV x3 a1).bind λy4=>br (!y4.1) (some (y1.1,3,())) (br (decide ((aeq .i64 (a0.masterUp*2))<=3)) (some (y1.1,8,())) (iteP (0<=a1) ((a0.sides[a1.toNat]?).bind λx5=>br (!(x5==0)) (some (y1.1,8,())) (br (!(x3.config.epoch==(a0.master.configs.length:Int))) (some (y1.1,11,())) ((Lf a0.lease x3.config.epoch a1 a0.now a2).bind λy6=>br (!y6.2.1) (some (y1.1,7,())) (some ((⟨y1.1.now,y1.1.servers,y1.1.sides,y1.1.master,y1.1.masterUp,y6.1,y1.1.places⟩:qh),0,()))))) none))) none)
def RN[dE] :=Fg 60 Tryz.f60 Su OE (λx=>Ka x.1 x.2.1 x.2.2.1) [F4,ST,JV,Wl] [] (by kernel_rfl) λx=>by simp only[Ka,tm];kernel_rfl
abbrev Q9:LX:=⟨⟨[LD,VW,Of],[JZ],Jl,0,28⟩,[(.ext 0,⟨[VW],[],Jl,0,28⟩)],[],[1,3,4],[3]⟩
def JB(s:ZF×(Nn×Unit)×List Int×Unit):Q9.R:=
 br (decide (s.1.2.2.1<(s.2.1.1.2.1.length:Int))) ((ED (⟨s.2.1.1.1,s.2.1.1.2.1,s.2.1.1.2.2.1,(⟨s.2.1.1.2.2.2.1,s.2.1.1.2.2.2.2.1⟩:jZ),s.2.1.1.2.2.2.2.2.1,(⟨s.2.1.1.2.2.2.2.2.2.1,s.2.1.1.2.2.2.2.2.2.2.1,s.2.1.1.2.2.2.2.2.2.2.2.1⟩:uN),s.2.1.1.2.2.2.2.2.2.2.2.2.1⟩:qh)).bind λy13=>br y13.1 (iteP (0<=s.1.2.2.1) ((s.2.1.1.2.1[s.1.2.2.1.toNat]?).bind λx14=>br x14.up (iteP ((s.2.2.1++([s.1.2.2.1]:List Int)).length*8<=2 ^ 40) (some (.inl (((),(),(aeq .i64 (s.1.2.2.1+1)),()),s.2.1,(s.2.2.1++([s.1.2.2.1]:List Int)),()))) none) (some (.inl (((),(),(aeq .i64 (s.1.2.2.1+1)),()),s.2)))) none) (some (.inr (((),()),(()),s.2.2)))) (some (.inr (((),()),(()),s.2.2)))
def QW:=ny JB
def VJ[dE] :=H5 Tryz.f189 [0] Q9 JB [ES] [] (by kernel_rfl) λs=>by simp only[JB,tm];kernel_rfl
def ME(a0:qh):Option ((List Int)×Unit):=
 (QW (((),(),0,()),((a0.now,a0.servers,a0.sides,a0.master.configs,a0.master.activated,a0.masterUp,a0.lease.epoch,a0.lease.holder,a0.lease.ends,a0.places,()),()),([]:List Int),())).bind λe16=>some e16.2.2
def Xk[dE] :=Fg 189 Tryz.f189 Ss K4 (λx=>ME x.1) [] [VJ] (by kernel_rfl) λx=>by simp only[ME,tm];kernel_rfl
abbrev Qt:LX:=⟨⟨[OD,VW,Of],[],Jl,0,26⟩,[(.ext 0,⟨[VW],[],Jl,0,26⟩)],[],[0,3,4],[3]⟩
def IV(s:acN×Unit×List Int×Unit):Qt.R:=
 br (decide (s.1.2.2.1<(s.1.1.length:Int))) ((HD s.1.1).bind λy4=>br y4.1 (iteP (0<=s.1.2.2.1) ((s.1.1[s.1.2.2.1.toNat]?).bind λx5=>br (x5==0) (iteP ((s.2.2.1++([s.1.2.2.1]:List Int)).length*8<=2 ^ 40) (some (.inl ((s.1.1,(),(aeq .i64 (s.1.2.2.1+1)),()),(()),(s.2.2.1++([s.1.2.2.1]:List Int)),()))) none) (some (.inl ((s.1.1,(),(aeq .i64 (s.1.2.2.1+1)),()),(()),s.2.2)))) none) (some (.inr (((),()),(()),s.2.2)))) (some (.inr (((),()),(()),s.2.2)))
def Qf:=ny IV
def UQ[dE] :=H5 Tryz.f190 [0] Qt IV [Pp] [] (by kernel_rfl) λs=>by simp only[IV,tm];kernel_rfl
def Li(a0:List Int):Option ((List Int)×Unit):=
 (Qf ((a0,(),0,()),(()),([]:List Int),())).bind λe7=>some e7.2.2
def Wo[dE] :=Fg 190 Tryz.f190 Yp K4 (λx=>Li x.1) [] [UQ] (by kernel_rfl) λx=>by simp only[Li,tm];kernel_rfl
def NI(a0:qh):Option ((List Int)×Unit):=
 (ME a0).bind λy1=>(Li a0.sides).bind λy2=>(HE y1.1 y2.1).bind λy3=>some (y3.1,())
def Yg[dE] :=Fg 85 Tryz.f85 Ss K4 (λx=>NI x.1) [Xk,Wo,MS] [] (by kernel_rfl) λx=>by simp only[NI,tm];kernel_rfl
def EF(a0:jZ):Option (nG×Bool×Unit):=
 (FR a0 a0.activated).bind λy1=>some (y1.1,y1.2.1,())
def Gf[dE] :=Fg 29 Tryz.f29 Xu Yr (λx=>EF x.1) [Rf] [] (by kernel_rfl) λx=>by simp only[EF,tm];kernel_rfl
abbrev N9:LX:=⟨⟨[OD,QX,NZ,Om],[],Jl,0,28⟩,[(.ext 0,⟨[NZ],[],Jl,0,28⟩)],[],[0,1,5,6],[5]⟩
def Hh(s:adp×Unit×List Int×Unit):N9.R:=
 br (decide (s.1.2.2.2.1<(s.1.1.length:Int))) (iteP (0<=s.1.2.2.2.1) ((s.1.1[s.1.2.2.2.1.toNat]?).bind λx5=>(FH s.1.2.1 x5).bind λy6=>br (!y6.1) (iteP (0<=s.1.2.2.2.1) ((s.1.1[s.1.2.2.2.1.toNat]?).bind λx7=>(IM s.2.2.1 x7).bind λy8=>some (.inl ((s.1.1,s.1.2.1,(),(aeq .i64 (s.1.2.2.2.1+1)),()),(()),y8.1,()))) none) (some (.inl ((s.1.1,s.1.2.1,(),(aeq .i64 (s.1.2.2.2.1+1)),()),(()),s.2.2)))) none) (some (.inr (((),()),(()),s.2.2)))
def NU:=ny Hh
def Ru[dE] :=H5 Tryz.f90 [0] N9 Hh [HP,Pq] [] (by kernel_rfl) λs=>by simp only[Hh,tm];kernel_rfl
def F3(a0:List Int)(a1:List Int):Option ((List Int)×Unit):=
 (NU ((a0,a1,(),0,()),(()),([]:List Int),())).bind λe10=>some e10.2.2
def L6[dE] :=Fg 90 Tryz.f90 Vq K4 (λx=>F3 x.1 x.2.1) [] [Ru] (by kernel_rfl) λx=>by simp only[F3,tm];kernel_rfl
abbrev Ta:LX:=⟨⟨[SY,QX,NZ,Om],[],Jl,0,33⟩,[(.ext 0,⟨[NZ],[],Jl,0,33⟩)],[],[0,1,5,6],[5]⟩
def Og(s: (List uQ×List Int×Unit×Int×Unit)×Unit×List Int×Unit):Ta.R:=
 br (decide (s.1.2.2.2.1<(s.1.2.1.length:Int))) ((FG s.1.1).bind λy5=>br y5.1 ((Gj s.1.2.1).bind λy6=>br y6.1 (iteP (0<=s.1.2.2.2.1) ((s.1.2.1[s.1.2.2.2.1.toNat]?).bind λx7=>iteP (0<=x7) ((s.1.1[x7.toNat]?).bind λx8=>(IM s.2.2.1 x8.rack).bind λy9=>some (.inl ((s.1.1,s.1.2.1,(),(aeq .i64 (s.1.2.2.2.1+1)),()),(()),y9.1,()))) none) none) (some (.inr (((),()),(()),s.2.2)))) (some (.inr (((),()),(()),s.2.2)))) (some (.inr (((),()),(()),s.2.2)))
def Xq:=ny Og
def XD[dE] :=H5 Tryz.f193 [0] Ta Og [ML,Nj,Pq] [] (by kernel_rfl) λs=>by simp only[Og,tm];kernel_rfl
def OM(a0:List uQ)(a1:List Int):Option ((List Int)×Unit):=
 (Xq ((a0,a1,(),0,()),(()),([]:List Int),())).bind λe10=>some e10.2.2
def Zx[dE] :=Fg 193 Tryz.f193 [.ty (.ls (.st .place)),.ty (.ls (.i .i64))] K4 (λx=>OM x.1 x.2.1) [] [XD] (by kernel_rfl) λx=>by simp only[OM,tm];kernel_rfl
def OL(a0:List uQ)(a1:Int):Option (Bool×Unit):=
 (FG a0).bind λy1=>br y1.1 ((EN a1 0 4).bind λy2=>br y2.1 (iteP (0<=a1) ((a0[a1.toNat]?).bind λx3=>iteP (0<=a1) ((a0[a1.toNat]?).bind λx4=>some ((decide (x3.load<x4.capacity)),())) none) none) (some (false,()))) (some (false,()))
def Zw[dE] :=Fg 194 Tryz.f194 [.ty (.ls (.st .place)),.ty (.i .i64)] [.b] (λx=>OL x.1 x.2.1) [ML,FN] [] (by kernel_rfl) λx=>by simp only[OL,tm];kernel_rfl
def NK(a0:List uQ)(a1:List Int)(a2:Int)(a3:Int):Option (Bool×Unit):=
 iteP (0<=a2) ((a0[a2.toNat]?).bind λx1=>(FH a1 x1.rack).bind λy2=>iteP (0<=a3) ((a0[a3.toNat]?).bind λx3=>(FH a1 x3.rack).bind λy4=>br (!(y2.1==y4.1)) (some (y4.1,())) (iteP (0<=a2) ((a0[a2.toNat]?).bind λx5=>iteP (0<=a3) ((a0[a3.toNat]?).bind λx6=>some ((decide (x5.load<x6.load)),())) none) none)) none) none
def Yi[dE] :=Fg 195 Tryz.f195 [.ty (.ls (.st .place)),.ty (.ls (.i .i64)),.ty (.i .i64),.ty (.i .i64)] [.b] (λx=>NK x.1 x.2.1 x.2.2.1 x.2.2.2.1) [HP] [] (by kernel_rfl) λx=>by simp only[NK,tm];kernel_rfl
abbrev OI:LX:=⟨⟨[SY,QX,(2,.cl (.ro (.i .i64))),PN,YZ,(9,.cl (.int .i64))],[],Jl,0,46⟩,[(.ext 0,⟨[PN],[],[],0,46⟩)],[],[0,1,2,7,8,9],[7]⟩
def Mg(s: (List uQ×List Int×List Int×Int×Unit×Int×Unit)×Unit×List Int×Unit):OI.R:=
 br (decide (s.1.2.2.2.2.2.1<5)) ((Gj s.1.2.1).bind λy8=>br y8.1 ((OL s.1.1 s.1.2.2.2.2.2.1).bind λy9=>let j14 (p13:Int):OI.R:=some (.inl ((s.1.1,s.1.2.1,s.1.2.2.1,p13,(),(aeq .i64 (s.1.2.2.2.2.2.1+1)),()),(()),s.2.2));br (!y9.1) (j14 s.1.2.2.2.1) ((FH s.1.2.1 s.1.2.2.2.2.2.1).bind λy10=>br y10.1 (j14 s.1.2.2.2.1) ((FH s.1.2.2.1 s.1.2.2.2.2.2.1).bind λy11=>br y11.1 (j14 s.1.2.2.2.1) (br (decide (s.1.2.2.2.1<0)) (j14 s.1.2.2.2.2.2.1) ((NK s.1.1 s.2.2.1 s.1.2.2.2.2.2.1 s.1.2.2.2.1).bind λy12=>br y12.1 (j14 s.1.2.2.2.2.2.1) (j14 s.1.2.2.2.1)))))) (some (.inr ((s.1.2.2.2.1,()),(()),(()))))) (some (.inr ((s.1.2.2.2.1,()),(()),(()))))
def Vm:=ny Mg
def VF[dE] :=H5 Tryz.f89 [0] OI Mg [Nj,Zw,HP,Yi] [] (by kernel_rfl) λs=>by simp only[Mg,tm];kernel_rfl
def K1(a0:List uQ)(a1:List Int)(a2:List Int):Option (Int×Unit):=
 (OM a0 a1).bind λy1=>(Vm ((a0,a1,a2,(-1),(),0,()),(()),y1.1,())).bind λe15=>some e15.1
def SR[dE] :=Fg 89 Tryz.f89 [.ty (.ls (.st .place)),.ty (.ls (.i .i64)),.ty (.ls (.i .i64))] JJ (λx=>K1 x.1 x.2.1 x.2.2.1) [Zx] [VF] (by kernel_rfl) λx=>by simp only[K1,tm];kernel_rfl
abbrev PJ:LX:=⟨⟨[SY,OC,aaD,(10,.cl (.own 1 (.i .i64)))],[],aaU,0,52⟩,[(.ret,⟨[YZ,aaD],[],Jl,0,52⟩),(.ext 0,⟨[(8,.cl (.dead)),aaD],[],Jl,0,52⟩)],[],[0,3,9,10],[8,9]⟩
def KJ(s: (List uQ×Int×Unit×Unit×Unit)×Unit×List Int×List Int×Unit):PJ.R:=
 br (decide ((s.2.2.1.length:Int)<s.1.2.1)) ((K1 s.1.1 s.2.2.1 s.2.2.2.1).bind λy11=>br (decide (y11.1<0)) (some (.inr (.inl (((),(),()),(()),s.2.2.1,())))) ((IM s.2.2.1 y11.1).bind λy12=>some (.inl (s.1,(()),y12.1,s.2.2.2)))) (some (.inr (.inr (((),(),()),(()),s.2.2.1,()))))
def Tx:=ny KJ
def TF[dE] :=H5 Tryz.f87 [0] PJ KJ [SR,Pq] [] (by kernel_rfl) λs=>by simp only[KJ,tm];kernel_rfl
def Kv(a0:List uQ)(a1:List Int)(a2:List Int)(a3:Int):Option ((List Int)×Unit):=
 (HE a1 a2).bind λy1=>(F3 ([0,1,2,3,4]:List Int) a2).bind λy2=>(FG a0).bind λy3=>br (!y3.1) (some (([]:List Int),())) ((Gj a1).bind λy4=>br (!y4.1) (some (([]:List Int),())) ((Gj a2).bind λy5=>br (!y5.1) (some (([]:List Int),())) ((EN a3 0 5).bind λy6=>br (!y6.1) (some (([]:List Int),())) ((Tx ((a0,a3,(),(),()),(()),y1.1,y2.1,())).bind λe13=>Sum.elim (λe13_0=>some e13_0.2.2) (λe13_1=>some e13_1.2.2) e13))))
def Vf[dE] :=Fg 87 Tryz.f87 [.ty (.ls (.st .place)),.ty (.ls (.i .i64)),.ty (.ls (.i .i64)),.ty (.i .i64)] K4 (λx=>Kv x.1 x.2.1 x.2.2.1 x.2.2.2.1) [MS,L6,ML,Nj,FN] [TF] (by kernel_rfl) λx=>by simp only[Kv,tm];kernel_rfl
abbrev N6:LX:=⟨⟨[KG,QY,S6,PO,YZ,(9,.cl (.ptr 2 0)),acF,Qi],[JZ,acY,aaQ],ac1,0,132⟩,[(.ext 0,⟨[KG,QY,S6,PO,YZ,(9,.cl (.ptr 2 0)),acF],[JZ,acY,aaQ],ac1,0,132⟩)],[],[1,2,3,6,8,9,11,12],[1,2,3,6,8,9,11]⟩
def K8(s: (Int×Int×Unit×Unit×Unit×Unit×Unit×Int×Unit)×(Nn×Sv×Sv×Unit)×List Int×List Int×List Int×List Int×Unit):N6.R:=
 br (decide (s.1.2.2.2.2.2.2.2.1<(s.2.2.2.2.1.length:Int))) (iteP (0<=s.1.2.2.2.2.2.2.2.1/\s.1.2.2.2.2.2.2.2.1<(s.2.2.2.2.1.length:Int)) ((s.2.2.2.2.1[s.1.2.2.2.2.2.2.2.1.toNat]?).bind λx27=>(FH s.2.2.1 x27).bind λy28=>let j33 (p32:List Int):N6.R:=some (.inl ((s.1.1,s.1.2.1,(),(),(),(),(),(aeq .i64 (s.1.2.2.2.2.2.2.2.1+1)),()),s.2.1,s.2.2.1,p32,s.2.2.2.2));br y28.1 (iteP (0<=s.1.2.2.2.2.2.2.2.1/\s.1.2.2.2.2.2.2.2.1<(s.2.2.2.2.1.length:Int)) ((s.2.2.2.2.1[s.1.2.2.2.2.2.2.2.1.toNat]?).bind λx29=>iteP (0<=x29) ((s.2.1.1.2.1[x29.toNat]?).bind λx30=>br (x30.config.epoch==s.2.1.2.2.1.1) (iteP (0<=s.1.2.2.2.2.2.2.2.1/\s.1.2.2.2.2.2.2.2.1<(s.2.2.2.2.1.length:Int)) ((s.2.2.2.2.1[s.1.2.2.2.2.2.2.2.1.toNat]?).bind λx31=>iteP ((s.2.2.2.1++([x31]:List Int)).length*8<=2 ^ 40) (j33 (s.2.2.2.1++([x31]:List Int))) none) none) (j33 s.2.2.2.1)) none) none) (j33 s.2.2.2.1)) none) (some (.inr ((s.1.1,s.1.2.1,(),(),(),(),(),()),s.2)))
def Uw:=ny K8
def US[dE] :=H5 Tryz.f18 [0] N6 K8 [HP] [] (by kernel_rfl) λs=>by simp only[K8,tm];kernel_rfl
def J9(a0:qh)(a1:Int)(a2:Int):Option (nG×Bool×Unit):=
 (ED a0).bind λy1=>br (!y1.1) (some ((⟨0,0,([]:List Int),([]:List Int)⟩:nG),false,())) ((EN a1 1 3).bind λy2=>br (!y2.1) (some ((⟨0,0,([]:List Int),([]:List Int)⟩:nG),false,())) ((EN a2 0 1).bind λy3=>br (!y3.1) (some ((⟨0,0,([]:List Int),([]:List Int)⟩:nG),false,())) (br ((a0.master.configs.length:Int)==20) (some ((⟨0,0,([]:List Int),([]:List Int)⟩:nG),false,())) ((NI a0).bind λy4=>(EF a0.master).bind λy5=>(Uw ((a1,a2,(),(),(),(),(),0,()),((a0.now,a0.servers,a0.sides,a0.master.configs,a0.master.activated,a0.masterUp,a0.lease.epoch,a0.lease.holder,a0.lease.ends,a0.places,()),(0,0,(),(),()),(y5.1.epoch,y5.1.primary,(),(),()),()),y4.1,([]:List Int),y5.1.replicas,y5.1.witnesses,())).bind λe34=>(Kv e34.2.1.1.2.2.2.2.2.2.2.2.2.1 e34.2.2.2.1 e34.2.2.1 e34.1.1).bind λy35=>br ((y35.1.length:Int)==0) (some ((⟨0,0,([]:List Int),([]:List Int)⟩:nG),false,())) (iteP (0<=(0:Int)/\(0:Int)<(y35.1.length:Int)) ((y35.1[(0:Int).toNat]?).bind λx36=>(FH y35.1 e34.2.1.2.2.1.2.1).bind λy37=>let j43 (p39:Int):Option (nG×Bool×Unit):=br (e34.1.2.1==1) ((F3 ([0,1,2,3,4]:List Int) e34.2.2.1).bind λy40=>(K1 e34.2.1.1.2.2.2.2.2.2.2.2.2.1 y35.1 y40.1).bind λy41=>br (decide (y41.1≥0)) (some ((⟨(aeq .i64 ((e34.2.1.1.2.2.2.1.length:Int)+1)),p39,y35.1,([y41.1]:List Int)⟩:nG),true,())) (some ((⟨(aeq .i64 ((e34.2.1.1.2.2.2.1.length:Int)+1)),p39,y35.1,([]:List Int)⟩:nG),true,()))) (some ((⟨(aeq .i64 ((e34.2.1.1.2.2.2.1.length:Int)+1)),p39,y35.1,([]:List Int)⟩:nG),true,()));br y37.1 ((JD (⟨e34.2.1.2.2.1.1,e34.2.1.2.2.1.2.1,e34.2.2.2.2.1,e34.2.2.2.2.2.1⟩:nG)).bind λy38=>br (!y38.1) (j43 e34.2.1.2.2.1.2.1) (j43 x36)) (j43 x36)) none)))))
def RM[dE] :=Fg 18 Tryz.f18 Su Yr (λx=>J9 x.1 x.2.1 x.2.2.1) [ES,FN,Yg,Gf,HP,Vf,QJ,L6,SR] [US] (by kernel_rfl) λx=>by simp only[J9,tm];kernel_rfl
def GK(a0:jZ)(a1:nG):Option (jZ×Bool×Unit):=
 (L0 a0).bind λy1=>(EU a0).bind λy2=>br (!y2.1) (some (y1.1,false,())) ((EH a1).bind λy3=>br (!y3.1) (some (y1.1,false,())) (br (!(a1.epoch==(aeq .i64 ((a0.configs.length:Int)+1)))) (some (y1.1,false,())) ((H3 a1).bind λy4=>iteP ((y1.1.configs++([y4.1]:List nG)).length*64<=2 ^ 40) (some ((⟨(y1.1.configs++([y4.1]:List nG)),y1.1.activated⟩:jZ),true,())) none)))
def Pz[dE] :=Fg 124 Tryz.f124 acq Y5 (λx=>GK x.1 x.2.1) [Sg,Mt,KN,P9] [] (by kernel_rfl) λx=>by simp only[GK,tm];kernel_rfl
def Ge(a0:qh)(a1:nG):Option (qh×Int×Unit):=
 (Fz a0).bind λy1=>(ED a0).bind λy2=>br (!y2.1) (some (y1.1,1,())) (br (decide ((aeq .i64 (a0.masterUp*2))<=3)) (some (y1.1,8,())) ((GK a0.master a1).bind λy3=>br (!y3.2.1) (some (y1.1,1,())) (some ((⟨y1.1.now,y1.1.servers,y1.1.sides,y3.1,y1.1.masterUp,y1.1.lease,y1.1.places⟩:qh),0,()))))
def Ow[dE] :=Fg 37 Tryz.f37 acr OE (λx=>Ge x.1 x.2.1) [F4,ES,Pz] [] (by kernel_rfl) λx=>by simp only[Ge,tm];kernel_rfl
def Gk(a0:jZ):Option (nG×Bool×Unit):=
 (FR a0 (a0.configs.length:Int)).bind λy1=>some (y1.1,y1.2.1,())
def Wn[dE] :=Fg 115 Tryz.f115 Xu Yr (λx=>Gk x.1) [Rf] [] (by kernel_rfl) λx=>by simp only[Gk,tm];kernel_rfl
def Hq(a0:qk)(a1:Int):Option (qk×Bool×Unit):=
 (Ij a0).bind λy1=>(EN a1 1 20).bind λy2=>br (!y2.1) (some (y1.1,false,())) (br (decide (a1<=a0.epoch)) (some (y1.1,false,())) (br (decide (a0.epoch<0)) (some (y1.1,false,())) (some ((⟨y1.1.up,y1.1.intact,y1.1.version,a1,y1.1.config,y1.1.first,y1.1.log,y1.1.commit,y1.1.learned⟩:qk),true,()))))
def RP[dE] :=Fg 210 Tryz.f210 Vr Y6 (λx=>Hq x.1 x.2.1) [Si,FN] [] (by kernel_rfl) λx=>by simp only[Hq,tm];kernel_rfl
abbrev MZ:LX:=⟨⟨[KG,QY,S6,PO,(7,.cl (.ptr 2 0)),acG,Uy],[JZ,K5,Vu],Xy,0,85⟩,[(.ext 0,⟨[(6,.cl (.ptr 0 0)),(7,.cl (.ptr 1 0))],[K5,WH],Yw,0,85⟩)],[],[1,2,3,6,7,10,11],[6,7]⟩
def GI(s: (Int×Int×Unit×Unit×Unit×Unit×Int×Unit)×(Nn×LL×LL×Unit)×List Int×List qk×List Int×List nG×List uQ×Unit):MZ.R:=
 br (decide (s.1.2.2.2.2.2.2.1<(s.2.2.1.length:Int))) (iteP (0<=s.1.2.2.2.2.2.2.1/\s.1.2.2.2.2.2.2.1<(s.2.2.1.length:Int)) ((s.2.2.1[s.1.2.2.2.2.2.2.1.toNat]?).bind λx36=>iteP (0<=x36) ((s.2.1.1.2.1[x36.toNat]?).bind λx37=>let j47 (p46:List qk):MZ.R:=some (.inl ((s.1.1,s.1.2.1,(),(),(),(),(aeq .i64 (s.1.2.2.2.2.2.2.1+1)),()),s.2.1,s.2.2.1,p46,s.2.2.2.2));br x37.up (iteP (0<=s.1.2.2.2.2.2.2.1/\s.1.2.2.2.2.2.2.1<(s.2.2.1.length:Int)) ((s.2.2.1[s.1.2.2.2.2.2.2.1.toNat]?).bind λx38=>(F5 s.2.1.1.2.2.1 s.1.1 x38).bind λy39=>br y39.1 (iteP (0<=s.1.2.2.2.2.2.2.1/\s.1.2.2.2.2.2.2.1<(s.2.2.1.length:Int)) ((s.2.2.1[s.1.2.2.2.2.2.2.1.toNat]?).bind λx40=>iteP (0<=s.1.2.2.2.2.2.2.1/\s.1.2.2.2.2.2.2.1<(s.2.2.1.length:Int)) ((s.2.2.1[s.1.2.2.2.2.2.2.1.toNat]?).bind λx41=>iteP (0<=x41) ((s.2.1.1.2.1[x41.toNat]?).bind λx42=>(Hq x42 s.1.2.1).bind λy43=>iteP (0<=x40/\x40<(s.2.2.2.1.length:Int)) ((s.2.2.2.1[x40.toNat]?).bind λ_=>j47 (s.2.2.2.1.set x40.toNat y43.1)) none) none) none) none) (j47 s.2.2.2.1)) none) (j47 s.2.2.2.1)) none) none) (some (.inr (((),(),()),s.2.1.2,s.2.2.2)))
def MV:=ny GI
def TG[dE] :=H5 Tryz.f117 [0] MZ GI [L5,RP] [] (by kernel_rfl) λs=>by simp only[GI,tm];kernel_rfl
def GR(a0:qh)(a1:Int)(a2:Int):Option (qh×Unit):=
 (Fz a0).bind λy1=>(EF a0.master).bind λy2=>(ED a0).bind λy3=>br (!y3.1) (some (y1.1,())) (br (!y2.2.1) (some (y1.1,())) ((EN a2 1 (a0.master.configs.length:Int)).bind λy4=>br (!y4.1) (some (y1.1,())) ((Fd y2.1).bind λy5=>(MV ((a1,a2,(),(),(),(),0,()),((a0.now,a0.servers,a0.sides,a0.master.configs,a0.master.activated,a0.masterUp,a0.lease.epoch,a0.lease.holder,a0.lease.ends,a0.places,()),(0,(),(),(),0,0,0,0,0,(),()),(y1.1.now,(),(),(),y1.1.master.activated,y1.1.masterUp,y1.1.lease.epoch,y1.1.lease.holder,y1.1.lease.ends,(),()),()),y5.1,y1.1.servers,y1.1.sides,y1.1.master.configs,y1.1.places,())).bind λe48=>some ((⟨e48.2.1.2.1.1,e48.2.2.1,e48.2.2.2.1,(⟨e48.2.2.2.2.1,e48.2.1.2.1.2.2.2.2.1⟩:jZ),e48.2.1.2.1.2.2.2.2.2.1,(⟨e48.2.1.2.1.2.2.2.2.2.2.1,e48.2.1.2.1.2.2.2.2.2.2.2.1,e48.2.1.2.1.2.2.2.2.2.2.2.2.1⟩:uN),e48.2.2.2.2.2.1⟩:qh),()))))
def Vh[dE] :=Fg 117 Tryz.f117 Su UC (λx=>GR x.1 x.2.1 x.2.2.1) [F4,Gf,ES,FN,Jb] [TG] (by kernel_rfl) λx=>by simp only[GR,tm];kernel_rfl
abbrev N8:LX:=⟨⟨[KG,Mc,NZ,PO,Xx,PE],[JZ,ZI],aaV,0,74⟩,[(.ext 0,⟨[NZ],[],Jl,0,74⟩)],[],[1,2,5,6,7,8],[5]⟩
def GW(s:aaK×(Nn×Sv×Unit)×List Int×List Int×List Int×Unit):N8.R:=
 br (decide (s.1.2.2.2.2.2.1<(s.2.2.2.1.length:Int))) (br s.1.2.2.2.2.1 ((ED (⟨s.2.1.1.1,s.2.1.1.2.1,s.2.1.1.2.2.1,(⟨s.2.1.1.2.2.2.1,s.2.1.1.2.2.2.2.1⟩:jZ),s.2.1.1.2.2.2.2.2.1,(⟨s.2.1.1.2.2.2.2.2.2.1,s.2.1.1.2.2.2.2.2.2.2.1,s.2.1.1.2.2.2.2.2.2.2.2.1⟩:uN),s.2.1.1.2.2.2.2.2.2.2.2.2.1⟩:qh)).bind λy20=>br y20.1 ((EN s.1.1 0 4).bind λy21=>br y21.1 (iteP (0<=s.1.2.2.2.2.2.1/\s.1.2.2.2.2.2.1<(s.2.2.2.1.length:Int)) ((s.2.2.2.1[s.1.2.2.2.2.2.1.toNat]?).bind λx22=>iteP (0<=x22) ((s.2.1.1.2.1[x22.toNat]?).bind λx23=>let j28 (p27:List Int):N8.R:=some (.inl ((s.1.1,(),(),(),s.1.2.2.2.2.1,(aeq .i64 (s.1.2.2.2.2.2.1+1)),()),s.2.1,p27,s.2.2.2));br x23.up (br (x23.config.epoch==s.2.1.2.1.1) (iteP (0<=s.1.2.2.2.2.2.1/\s.1.2.2.2.2.2.1<(s.2.2.2.1.length:Int)) ((s.2.2.2.1[s.1.2.2.2.2.2.1.toNat]?).bind λx24=>(F5 s.2.1.1.2.2.1 s.1.1 x24).bind λy25=>br y25.1 (iteP (0<=s.1.2.2.2.2.2.1/\s.1.2.2.2.2.2.1<(s.2.2.2.1.length:Int)) ((s.2.2.2.1[s.1.2.2.2.2.2.1.toNat]?).bind λx26=>iteP ((s.2.2.1++([x26]:List Int)).length*8<=2 ^ 40) (j28 (s.2.2.1++([x26]:List Int))) none) none) (j28 s.2.2.1)) none) (j28 s.2.2.1)) (j28 s.2.2.1)) none) none) (some (.inr (((),()),(()),s.2.2.1,())))) (some (.inr (((),()),(()),s.2.2.1,())))) (some (.inr (((),()),(()),s.2.2.1,())))) (some (.inr (((),()),(()),s.2.2.1,())))
def LB:=ny GW
def UT[dE] :=H5 Tryz.f248 [0] N8 GW [ES,FN,L5] [] (by kernel_rfl) λs=>by simp only[GW,tm];kernel_rfl
def GL(a0:qh)(a1:Int):Option ((List Int)×Unit):=
 (EF a0.master).bind λy1=>(LB ((a1,(),(),(),y1.2.1,0,()),((a0.now,a0.servers,a0.sides,a0.master.configs,a0.master.activated,a0.masterUp,a0.lease.epoch,a0.lease.holder,a0.lease.ends,a0.places,()),(y1.1.epoch,y1.1.primary,(),(),()),()),([]:List Int),y1.1.replicas,y1.1.witnesses,())).bind λe29=>some e29.2.2
def Wv[dE] :=Fg 248 Tryz.f248 Kl K4 (λx=>GL x.1 x.2.1) [Gf] [UT] (by kernel_rfl) λx=>by simp only[GL,tm];kernel_rfl
abbrev Qr:LX:=⟨⟨[Mc,Nm,YY,PN],[JZ],Jl,0,44⟩,[(.ext 0,⟨[Nm],[],[],0,44⟩)],[],[2,5,6,7],[5]⟩
def Hs(s:acO×(Nn×Unit)×List Int×Unit):Qr.R:=
 br (decide (s.1.2.2.2.1<(s.2.2.1.length:Int))) (br (decide (s.1.2.1<0)) (iteP (0<=s.1.2.2.2.1/\s.1.2.2.2.1<(s.2.2.1.length:Int)) ((s.2.2.1[s.1.2.2.2.1.toNat]?).bind λx15=>some (.inl (((),x15,(),(aeq .i64 (s.1.2.2.2.1+1)),()),s.2))) none) (iteP (0<=s.1.2.2.2.1/\s.1.2.2.2.1<(s.2.2.1.length:Int)) ((s.2.2.1[s.1.2.2.2.1.toNat]?).bind λx16=>iteP (0<=x16) ((s.2.1.1.2.1[x16.toNat]?).bind λx17=>iteP (0<=s.1.2.1) ((s.2.1.1.2.1[s.1.2.1.toNat]?).bind λx18=>br (decide ((x17.log.length:Int)>(x18.log.length:Int))) (iteP (0<=s.1.2.2.2.1/\s.1.2.2.2.1<(s.2.2.1.length:Int)) ((s.2.2.1[s.1.2.2.2.1.toNat]?).bind λx19=>some (.inl (((),x19,(),(aeq .i64 (s.1.2.2.2.1+1)),()),s.2))) none) (some (.inl (((),s.1.2.1,(),(aeq .i64 (s.1.2.2.2.1+1)),()),s.2)))) none) none) none)) (some (.inr ((s.1.2.1,()),(()),(()))))
def NS:=ny Hs
def UO[dE] :=H5 Tryz.f211 [0] Qr Hs [] [] (by kernel_rfl) λs=>by simp only[Hs,tm];kernel_rfl
def Hp(a0:qh)(a1:Int):Option (Int×Unit):=
 (GL a0 a1).bind λy1=>(NS (((),(-1),(),0,()),((a0.now,a0.servers,a0.sides,a0.master.configs,a0.master.activated,a0.masterUp,a0.lease.epoch,a0.lease.holder,a0.lease.ends,a0.places,()),()),y1.1,())).bind λe21=>some e21.1
def Wj[dE] :=Fg 211 Tryz.f211 Kl JJ (λx=>Hp x.1 x.2.1) [Wv] [UO] (by kernel_rfl) λx=>by simp only[Hp,tm];kernel_rfl
def L3(a0:qk)(a1:Int):Option ((List rp)×Unit):=
 (Fm a0.config a1).bind λy1=>(Gt a0.learned).bind λy2=>br (y1.1==1) ((Fl a0).bind λy3=>br (decide ((y3.1.length:Int)>(y2.1.length:Int))) (some (y3.1,())) (some (y2.1,()))) (br (y1.1==2) ((Fl a0).bind λy4=>br (decide ((y4.1.length:Int)>(y2.1.length:Int))) (some (y4.1,())) (some (y2.1,()))) (some (y2.1,())))
def Zz[dE] :=Fg 250 Tryz.f250 Vr Vt (λx=>L3 x.1 x.2.1) [OX,KA,Jv] [] (by kernel_rfl) λx=>by simp only[L3,tm];kernel_rfl
def QE(a0:Int)(a1:List rp):Option (Bool×Unit):=
 (FE a1).bind λy1=>br y1.1 (br (decide ((a1.length:Int)<=3)) ((EN a0 0 (aeq .i64 (16-(a1.length:Int)))).bind λy2=>br y2.1 (br (a0==0) (some (true,())) (some (((a1.length:Int)==3),()))) (some (false,()))) (some (false,()))) (some (false,()))
def Zy[dE] :=Fg 268 Tryz.f268 acs [.b] (λx=>QE x.1 x.2.1) [Nk,FN] [] (by kernel_rfl) λx=>by simp only[QE,tm];kernel_rfl
abbrev O6:LX:=⟨⟨[Qk,aaE,Nm],[],[],0,30⟩,[(.ext 0,⟨[Nm],[],[],0,30⟩)],[],[0,1,5],[5]⟩
def Hg(s:acP×Unit×Unit):O6.R:=
 br (decide (s.1.2.2.1<(s.1.1.length:Int))) (br (decide (s.1.2.2.1<(s.1.2.1.length:Int))) (iteP (0<=s.1.2.2.1) ((s.1.1[s.1.2.2.1.toNat]?).bind λx4=>iteP (0<=s.1.2.2.1) ((s.1.2.1[s.1.2.2.1.toNat]?).bind λx5=>br ((x4.epoch==x5.epoch)&&((x4.op.client==x5.op.client)&&((x4.op.seq==x5.op.seq)&&((x4.op.kind==x5.op.kind)&&((x4.op.object==x5.op.object)&&((x4.op.old==x5.op.old)&&((x4.op.value==x5.op.value)&&true))))))) (some (.inl ((s.1.1,s.1.2.1,(aeq .i64 (s.1.2.2.1+1)),()),(()),(())))) (some (.inr (s.1.2.2,(()),(()))))) none) none) (some (.inr (s.1.2.2,(()),(()))))) (some (.inr (s.1.2.2,(()),(()))))
def L8:=ny Hg
def Sz[dE] :=H5 Tryz.f127 [0] O6 Hg [] [] (by kernel_rfl) λs=>by simp only[Hg,tm];kernel_rfl
def H2(a0:List rp)(a1:List rp):Option (Int×Unit):=
 (L8 ((a0,a1,0,()),(()),(()))).bind λe6=>some e6.1
def Ue[dE] :=Fg 127 Tryz.f127 YX JJ (λx=>H2 x.1 x.2.1) [] [Sz] (by kernel_rfl) λx=>by simp only[H2,tm];kernel_rfl
def KP(a0:List rp)(a1:Int)(a2:List rp):Option ((List rp)×Bool×Unit):=
 (FE a0).bind λy1=>br (!y1.1) (some (([]:List rp),false,())) ((QE a1 a2).bind λy2=>br (!y2.1) (some (([]:List rp),false,())) (br (decide (a1>(a0.length:Int))) (some (([]:List rp),false,())) (iteP (0<=a1/\a1<=(a0.length:Int)/\(a0.length:Int)<=(a0.length:Int)) ((H2 ((a0.drop a1.toNat).take ((a0.length:Int).toNat-a1.toNat)) a2).bind λy3=>br (decide (y3.1<(if(a2.length:Int)<(aeq .i64 ((a0.length:Int)-a1))then(a2.length:Int)else(aeq .i64 ((a0.length:Int)-a1))))) (some (([]:List rp),false,())) ((Gt a0).bind λy4=>iteP (0<=y3.1/\y3.1<=(a2.length:Int)/\(a2.length:Int)<=(a2.length:Int)) (iteP ((y4.1++((a2.drop y3.1.toNat).take ((a2.length:Int).toNat-y3.1.toNat))).length*56<=2 ^ 40) ((FE (y4.1++((a2.drop y3.1.toNat).take ((a2.length:Int).toNat-y3.1.toNat)))).bind λy5=>br (!y5.1) (some (([]:List rp),false,())) (some ((y4.1++((a2.drop y3.1.toNat).take ((a2.length:Int).toNat-y3.1.toNat))),true,()))) none) none)) none)))
def X9[dE] :=Fg 249 Tryz.f249 acu ZG (λx=>KP x.1 x.2.1 x.2.2.1) [Nk,Zy,Ue,KA] [] (by kernel_rfl) λx=>by simp only[KP,tm];kernel_rfl
abbrev M1:LX:=⟨⟨[KG,Mc,VX,Xx,aaF,QZ,Uz,(11,.cl (.ptr 2 0)),Qi],[JZ,ZI,aaR],ZJ,0,121⟩,[(.ext 2,⟨[KG,Mc,VX,Xx,aaF,QZ,Uz],[JZ,ZI],ZJ,0,121⟩)],[],[1,2,6,7,8,9,10,11,12],[1,2,6,7,8,9,10]⟩
def G3(s: (Int×Unit×Unit×Bool×Unit×Bool×Int×Unit×Int×Unit)×(Nn×Sv×aaL×Unit)×List rp×List Int×List Int×Unit):M1.R:=
 br (decide (s.1.2.2.2.2.2.2.2.2.1<5)) (iteP (0<=s.1.2.2.2.2.2.2.2.2.1) ((s.2.1.1.2.1[s.1.2.2.2.2.2.2.2.2.1.toNat]?).bind λx59=>let j66 (p64:List rp) (p65:Bool):M1.R:=some (.inl ((s.1.1,(),(),p65,(),s.1.2.2.2.2.2.1,s.1.2.2.2.2.2.2.1,(),(aeq .i64 (s.1.2.2.2.2.2.2.2.2.1+1)),()),s.2.1,p64,s.2.2.2));br (!x59.up) (j66 s.2.2.1 s.1.2.2.2.1) ((F5 s.2.1.1.2.2.1 s.1.1 s.1.2.2.2.2.2.2.2.2.1).bind λy60=>br (!y60.1) (j66 s.2.2.1 s.1.2.2.2.1) (iteP (0<=s.1.2.2.2.2.2.2.2.2.1) ((s.2.1.1.2.1[s.1.2.2.2.2.2.2.2.2.1.toNat]?).bind λx61=>(L3 x61 s.1.2.2.2.2.2.2.2.2.1).bind λy62=>(KP y62.1 s.2.1.2.2.1.2.2.2.2.2.2.2.2.1 s.2.1.2.2.1.2.2.2.2.2.2.2.2.2.1).bind λy63=>br y63.2.1 (br (!s.1.2.2.2.1) (j66 y63.1 true) (br (decide ((y63.1.length:Int)>(s.2.2.1.length:Int))) (j66 y63.1 true) (j66 s.2.2.1 s.1.2.2.2.1))) (j66 s.2.2.1 s.1.2.2.2.1)) none))) none) (some (.inr ((s.1.1,(),(),s.1.2.2.2.1,(),s.1.2.2.2.2.2.1,s.1.2.2.2.2.2.2.1,()),(s.2.1.1,s.2.1.2.1,()),s.2.2)))
def MW:=ny G3
def TH[dE] :=H5 Tryz.f212 [0,0] M1 G3 [L5,Zz,X9] [] (by kernel_rfl) λs=>by simp only[G3,tm];kernel_rfl
abbrev Qv:LX:=⟨⟨[KG,Mc,VX,Xx,aaF,QZ,Uz],[JZ,ZI],ZJ,0,121⟩,[(.ext 0,⟨[VX,Xx],[],abV,0,121⟩)],[],[1,2,6,7,8,9,10],[6,7]⟩
def GD(s: (Int×Unit×Unit×Bool×Unit×Bool×Int×Unit)×(Nn×Sv×Unit)×List rp×List Int×List Int×Unit):Qv.R:=
 br (decide (s.1.2.2.2.2.2.2.1<(s.2.2.2.2.1.length:Int))) (br s.1.2.2.2.2.2.1 ((ED (⟨s.2.1.1.1,s.2.1.1.2.1,s.2.1.1.2.2.1,(⟨s.2.1.1.2.2.2.1,s.2.1.1.2.2.2.2.1⟩:jZ),s.2.1.1.2.2.2.2.2.1,(⟨s.2.1.1.2.2.2.2.2.2.1,s.2.1.1.2.2.2.2.2.2.2.1,s.2.1.1.2.2.2.2.2.2.2.2.1⟩:uN),s.2.1.1.2.2.2.2.2.2.2.2.2.1⟩:qh)).bind λy21=>br y21.1 ((EN s.1.1 0 4).bind λy22=>br y22.1 (iteP (0<=s.1.2.2.2.2.2.2.1/\s.1.2.2.2.2.2.2.1<(s.2.2.2.2.1.length:Int)) ((s.2.2.2.2.1[s.1.2.2.2.2.2.2.1.toNat]?).bind λx23=>iteP (0<=x23) ((s.2.1.1.2.1[x23.toNat]?).bind λx24=>br (!x24.up) (some (.inl ((s.1.1,(),(),s.1.2.2.2.1,(),s.1.2.2.2.2.2.1,(aeq .i64 (s.1.2.2.2.2.2.2.1+1)),()),s.2))) (br (!(x24.config.epoch==s.2.1.2.1.1)) (some (.inl ((s.1.1,(),(),s.1.2.2.2.1,(),s.1.2.2.2.2.2.1,(aeq .i64 (s.1.2.2.2.2.2.2.1+1)),()),s.2))) (iteP (0<=s.1.2.2.2.2.2.2.1/\s.1.2.2.2.2.2.2.1<(s.2.2.2.2.1.length:Int)) ((s.2.2.2.2.1[s.1.2.2.2.2.2.2.1.toNat]?).bind λx25=>(F5 s.2.1.1.2.2.1 s.1.1 x25).bind λy26=>br (!y26.1) (some (.inl ((s.1.1,(),(),s.1.2.2.2.1,(),s.1.2.2.2.2.2.1,(aeq .i64 (s.1.2.2.2.2.2.2.1+1)),()),s.2))) ((MW ((s.1.1,(),(),s.1.2.2.2.1,(),s.1.2.2.2.2.2.1,s.1.2.2.2.2.2.2.1,(),0,()),(s.2.1.1,s.2.1.2.1,(x24.up,x24.intact,x24.version,x24.epoch,x24.config.epoch,x24.config.primary,x24.config.replicas,x24.config.witnesses,x24.first,x24.log,x24.commit,x24.learned,()),()),s.2.2)).bind λe67=>some (.inl ((e67.1.1,(),(),e67.1.2.2.2.1,(),e67.1.2.2.2.2.2.1,(aeq .i64 (e67.1.2.2.2.2.2.2.1+1)),()),e67.2)))) none))) none) none) (some (.inr (((),s.1.2.2.2.1,()),(()),s.2.2.1,())))) (some (.inr (((),s.1.2.2.2.1,()),(()),s.2.2.1,())))) (some (.inr (((),s.1.2.2.2.1,()),(()),s.2.2.1,())))) (some (.inr (((),s.1.2.2.2.1,()),(()),s.2.2.1,())))
def LC:=ny GD
def UU[dE] :=H5 Tryz.f212 [0] Qv GD [ES,FN,L5] [TH] (by kernel_rfl) λs=>by simp only[GD,tm];kernel_rfl
def GY(a0:qh)(a1:Int):Option ((List rp)×Bool×Unit):=
 (EF a0.master).bind λy1=>(LC ((a1,(),(),false,(),y1.2.1,0,()),((a0.now,a0.servers,a0.sides,a0.master.configs,a0.master.activated,a0.masterUp,a0.lease.epoch,a0.lease.holder,a0.lease.ends,a0.places,()),(y1.1.epoch,y1.1.primary,(),(),()),()),([]:List rp),y1.1.replicas,y1.1.witnesses,())).bind λe87=>some (e87.2.2.1,e87.1.2)
def Wx[dE] :=Fg 212 Tryz.f212 Kl ZG (λx=>GY x.1 x.2.1) [Gf] [UU] (by kernel_rfl) λx=>by simp only[GY,tm];kernel_rfl
def Gx(a0:qh)(a1:Int):Option ((List rp)×Bool×Unit):=
 (ED a0).bind λy1=>br (!y1.1) (some (([]:List rp),false,())) ((EN a1 0 4).bind λy2=>br (!y2.1) (some (([]:List rp),false,())) (br (a0.master.activated==0) (some (([]:List rp),true,())) ((Hp a0 a1).bind λy3=>br (decide (y3.1≥0)) (iteP (0<=y3.1) ((a0.servers[y3.1.toNat]?).bind λx4=>(Gt x4.log).bind λy5=>some (y5.1,true,())) none) ((GY a0 a1).bind λy6=>some (y6.1,y6.2.1,())))))
def Xj[dE] :=Fg 118 Tryz.f118 Kl ZG (λx=>Gx x.1 x.2.1) [ES,FN,Wj,KA,Wx] [] (by kernel_rfl) λx=>by simp only[Gx,tm];kernel_rfl
abbrev Pa:LX:=⟨⟨[Qk,OC],[],[],0,16⟩,[(.ret,⟨[O3],[],[],0,16⟩),(.ext 0,⟨[NY],[],[],0,16⟩)],[],[0,3],[2]⟩
def Hi(s:acL×Unit×Unit):Pa.R:=
 br (decide (s.1.2.1<(s.1.1.length:Int))) (iteP (0<=s.1.2.1) ((s.1.1[s.1.2.1.toNat]?).bind λx3=>(IG x3.op).bind λy4=>br y4.1 (some (.inr (.inl ((true,()),(()),(()))))) (some (.inl ((s.1.1,(aeq .i64 (s.1.2.1+1)),()),(()),(()))))) none) (some (.inr (.inr (((),()),(()),(())))))
def Ma:=ny Hi
def SD[dE] :=H5 Tryz.f119 [0] Pa Hi [QT] [] (by kernel_rfl) λs=>by simp only[Hi,tm];kernel_rfl
def Ft(a0:List rp):Option (Bool×Unit):=
 (Ma ((a0,0,()),(()),(()))).bind λe5=>Sum.elim (λe5_0=>some e5_0.1) (λ_=>some (false,())) e5
def NM[dE] :=Fg 119 Tryz.f119 RU [.b] (λx=>Ft x.1) [] [SD] (by kernel_rfl) λx=>by simp only[Ft,tm];kernel_rfl
def F1(a0:qk)(a1:nG)(a2:Int)(a3:List rp):Option (qk×Bool×Unit):=
 (Fm a1 a2).bind λy1=>br (y1.1==0) ((Ij a0).bind λy2=>some (y2.1,false,())) ((FE a3).bind λy3=>br (!y3.1) ((Ij a0).bind λy4=>some (y4.1,false,())) ((EN a0.version 1 2).bind λy5=>br (!y5.1) ((Ij a0).bind λy6=>some (y6.1,false,())) ((EN a0.epoch 0 a1.epoch).bind λy7=>br (!y7.1) ((Ij a0).bind λy8=>some (y8.1,false,())) ((Ik a3).bind λy9=>br (decide (y9.1>a1.epoch)) ((Ij a0).bind λy10=>some (y10.1,false,())) (let j18:Option (qk×Bool×Unit):=(H3 a1).bind λy13=>(Gt a3).bind λy14=>br (y1.1==3) (iteP (0<=(if(aeq .i64 ((a3.length:Int)-3))>0 then(aeq .i64 ((a3.length:Int)-3))else 0)/\(if(aeq .i64 ((a3.length:Int)-3))>0 then(aeq .i64 ((a3.length:Int)-3))else 0)<=(a3.length:Int)/\(a3.length:Int)<=(a3.length:Int)) ((Gt ((a3.drop (if(aeq .i64 ((a3.length:Int)-3))>0 then(aeq .i64 ((a3.length:Int)-3))else 0).toNat).take ((a3.length:Int).toNat-(if(aeq .i64 ((a3.length:Int)-3))>0 then(aeq .i64 ((a3.length:Int)-3))else 0).toNat))).bind λy15=>some ((⟨a0.up,true,a0.version,a1.epoch,y13.1,(if(aeq .i64 ((a3.length:Int)-3))>0 then(aeq .i64 ((a3.length:Int)-3))else 0),y15.1,(a3.length:Int),([]:List rp)⟩:qk),true,())) none) (some ((⟨a0.up,true,a0.version,a1.epoch,y13.1,0,y14.1,(a3.length:Int),([]:List rp)⟩:qk),true,()));br (a0.version==1) ((Ft a3).bind λy11=>br y11.1 ((Ij a0).bind λy12=>some (y12.1,false,())) (j18)) (j18))))))
def Px[dE] :=Fg 120 Tryz.f120 acv Y6 (λx=>F1 x.1 x.2.1 x.2.2.1 x.2.2.2.1) [OX,Si,Nk,FN,Sj,NM,P9,KA] [] (by kernel_rfl) λx=>by simp only[F1,tm];kernel_rfl
def FQ(a0:jZ)(a1:Int):Option (jZ×Bool×Unit):=
 (L0 a0).bind λy1=>(EU a0).bind λy2=>br (!y2.1) (some (y1.1,false,())) (br (!(a1==(a0.configs.length:Int))) (some (y1.1,false,())) (br (decide (a1<=a0.activated)) (some (y1.1,false,())) (some ((⟨y1.1.configs,a1⟩:jZ),true,()))))
def OU[dE] :=Fg 121 Tryz.f121 YW Y5 (λx=>FQ x.1 x.2.1) [Sg,Mt] [] (by kernel_rfl) λx=>by simp only[FQ,tm];kernel_rfl
abbrev Q1:LX:=⟨⟨[LD,O4,S7,S8,S9,UA,Uz],[JZ,K5,Vv,Yv],Yx,0,180⟩,[(.ret,⟨[LD,O4,OC,S7,S8,S9,UA],[JZ,Vv,Vv,Yv],Yx,0,180⟩),(.ext 1,⟨[LD,O4,(3,.cl (.dead)),S7,S8,S9,UA],[JZ,K5,Vv,Yv],Yx,0,180⟩)],[],[1,2,4,5,7,9,10],[1,2,3,4,5,7,9]⟩
def IA(s:aaM×(Nn×LL×LL×Sv×Unit)×List rp×List Int×List qk×List Int×List nG×List uQ×List Int×List Int×Unit):Q1.R:=
 br (decide (s.1.2.2.2.2.2.2.1<(s.2.2.2.1.length:Int))) (iteP (0<=s.1.2.2.2.2.2.2.1/\s.1.2.2.2.2.2.2.1<(s.2.2.2.1.length:Int)) ((s.2.2.2.1[s.1.2.2.2.2.2.2.1.toNat]?).bind λx43=>iteP (0<=x43) ((s.2.1.1.2.1[x43.toNat]?).bind λx44=>br (!x44.up) (some (.inr (.inl (((),(),10,(),(),(),(),()),(s.2.1.1,s.2.1.2.2.1,s.2.1.2.2),s.2.2)))) (iteP (0<=s.1.2.2.2.2.2.2.1/\s.1.2.2.2.2.2.2.1<(s.2.2.2.1.length:Int)) ((s.2.2.2.1[s.1.2.2.2.2.2.2.1.toNat]?).bind λx45=>iteP (0<=x45) ((s.2.1.1.2.2.1[x45.toNat]?).bind λx46=>br (!(x46==0)) (some (.inr (.inl (((),(),10,(),(),(),(),()),(s.2.1.1,s.2.1.2.2.1,s.2.1.2.2),s.2.2)))) (some (.inl (((),(),(),(),(),(),(aeq .i64 (s.1.2.2.2.2.2.2.1+1)),()),s.2)))) none) none)) none) none) (some (.inr (.inr (((),(),(),(),(),(),(),()),s.2))))
def Oy:=ny IA
def Vx[dE] :=H5 Tryz.f34 [0] Q1 IA [] [] (by kernel_rfl) λs=>by simp only[IA,tm];kernel_rfl
abbrev OF:LX:=⟨⟨[LD,O4,S7,S8,S9,UA,Uy],[JZ,K5,Vv,Yv],Yx,0,180⟩,[(.ret,⟨[LD,O4,OC,S7,S8,S9,UA],[JZ,Vv,Vv,Yv],Yx,0,180⟩),(.ext 3,⟨[LD,O4,(3,.cl (.dead)),S7,S8,S9,UA],[JZ,K5,Vv,Yv],Yx,0,180⟩)],[],[1,2,4,5,7,9,11],[1,2,3,4,5,7,9]⟩
def GQ(s:aaM×(Nn×LL×LL×Sv×Unit)×List rp×List Int×List qk×List Int×List nG×List uQ×List Int×List Int×Unit):OF.R:=
 br (decide (s.1.2.2.2.2.2.2.1<(s.2.2.2.1.length:Int))) (iteP (0<=s.1.2.2.2.2.2.2.1/\s.1.2.2.2.2.2.2.1<(s.2.2.2.1.length:Int)) ((s.2.2.2.1[s.1.2.2.2.2.2.2.1.toNat]?).bind λx81=>iteP (0<=x81) ((s.2.1.1.2.1[x81.toNat]?).bind λx82=>let j84:OF.R:=some (.inl (((),(),(),(),(),(),(aeq .i64 (s.1.2.2.2.2.2.2.1+1)),()),s.2));br (x82.version==1) ((Ft s.2.2.1).bind λy83=>br y83.1 (some (.inr (.inl (((),(),6,(),(),(),(),()),(s.2.1.1,s.2.1.2.2.1,s.2.1.2.2),s.2.2)))) (j84)) (j84)) none) none) (some (.inr (.inr (((),(),(),(),(),(),(),()),s.2))))
def Mv:=ny GQ
def Vy[dE] :=H5 Tryz.f34 [1] OF GQ [NM] [] (by kernel_rfl) λs=>by simp only[GQ,tm];kernel_rfl
abbrev Q3:LX:=⟨⟨[LD,O4,S7,S8,S9,UA,Qi],[JZ,K5,Vv,Yv],Yx,0,180⟩,[(.ext 5,⟨[LD,O4,S7,S8],[JZ,K5,WH,[.int .i64,.int .i64,.own 4 (.i .i64),.own 5 (.i .i64)]],[.st .server,.i .i64,.st .config,.st .place,.i .i64,.i .i64],0,180⟩)],[],[1,2,4,5,7,9,12],[1,2,4,5]⟩
def IB(s:aaM×(Nn×LL×LL×Sv×Unit)×List rp×List Int×List qk×List Int×List nG×List uQ×List Int×List Int×Unit):Q3.R:=
 br (decide (s.1.2.2.2.2.2.2.1<(s.2.2.2.1.length:Int))) (iteP (0<=s.1.2.2.2.2.2.2.1/\s.1.2.2.2.2.2.2.1<(s.2.2.2.1.length:Int)) ((s.2.2.2.1[s.1.2.2.2.2.2.2.1.toNat]?).bind λx119=>iteP (0<=s.1.2.2.2.2.2.2.1/\s.1.2.2.2.2.2.2.1<(s.2.2.2.1.length:Int)) ((s.2.2.2.1[s.1.2.2.2.2.2.2.1.toNat]?).bind λx120=>iteP (0<=x120/\x120<(s.2.2.2.2.1.length:Int)) ((s.2.2.2.2.1[x120.toNat]?).bind λx121=>iteP (0<=s.1.2.2.2.2.2.2.1/\s.1.2.2.2.2.2.2.1<(s.2.2.2.1.length:Int)) ((s.2.2.2.1[s.1.2.2.2.2.2.2.1.toNat]?).bind λx122=>(s.2.2.2.2.1[x120.toNat]?).bind λx123=>iteP (0+x121.config.replicas.length<=x123.config.replicas.length) ((s.2.2.2.2.1[x120.toNat]?).bind λx124=>iteP (0+x121.config.witnesses.length<=x124.config.witnesses.length) ((s.2.2.2.2.1[x120.toNat]?).bind λx125=>iteP (0+x121.log.length<=x125.log.length) ((s.2.2.2.2.1[x120.toNat]?).bind λx126=>iteP (0+x121.learned.length<=x126.learned.length) ((F1 (⟨x121.up,x121.intact,x121.version,x121.epoch,(⟨x121.config.epoch,x121.config.primary,((x123.config.replicas.drop 0).take x121.config.replicas.length),((x124.config.witnesses.drop 0).take x121.config.witnesses.length)⟩:nG),x121.first,((x125.log.drop 0).take x121.log.length),x121.commit,((x126.learned.drop 0).take x121.learned.length)⟩:qk) (⟨s.2.1.2.2.2.1.1,s.2.1.2.2.2.1.2.1,s.2.2.2.2.2.2.2.2.1,s.2.2.2.2.2.2.2.2.2.1⟩:nG) x122 s.2.2.1).bind λy127=>iteP (0<=x119/\x119<(s.2.2.2.2.1.length:Int)) ((s.2.2.2.2.1[x119.toNat]?).bind λ_=>some (.inl (((),(),(),(),(),(),(aeq .i64 (s.1.2.2.2.2.2.2.1+1)),()),s.2.1,s.2.2.1,s.2.2.2.1,(s.2.2.2.2.1.set x119.toNat y127.1),s.2.2.2.2.2))) none) none) none) none) none) none) none) none) none) (some (.inr (((),(),(),(),()),s.2.1,s.2.2.2.2)))
def Oz:=ny IB
def Vz[dE] :=H5 Tryz.f34 [2] Q3 IB [Px] [] (by kernel_rfl) λs=>by simp only[IB,tm];kernel_rfl
def H1(a0:qh):Option (qh×Int×Unit):=
 (Fz a0).bind λy1=>(Gk a0.master).bind λy2=>(ED a0).bind λy3=>br (!y3.1) (some (y1.1,1,())) (br (!y2.2.1) (some (y1.1,1,())) (br (y2.1.epoch==a0.master.activated) (some (y1.1,1,())) (br (decide ((aeq .i64 (a0.masterUp*2))<=3)) (some (y1.1,8,())) (iteP (0<=y2.1.primary) ((a0.servers[y2.1.primary.toNat]?).bind λx4=>br (!x4.up) (some (y1.1,2,())) (iteP (0<=y2.1.primary) ((a0.sides[y2.1.primary.toNat]?).bind λx5=>br (!(x5==0)) (some (y1.1,10,())) ((IH a0.lease a0.now).bind λy6=>br (!y6.1) (some (y1.1,7,())) ((GR a0 y2.1.primary y2.1.epoch).bind λy7=>(Gx a0 y2.1.primary).bind λy8=>br (!y8.2.1) (some (y7.1,9,())) ((Fd y2.1).bind λy9=>(Oy (((),(),(),(),(),(),0,()),((a0.now,a0.servers,a0.sides,a0.master.configs,a0.master.activated,a0.masterUp,a0.lease.epoch,a0.lease.holder,a0.lease.ends,a0.places,()),(0,(),(),(),0,0,0,0,0,(),()),(y7.1.now,(),(),(),y7.1.master.activated,y7.1.masterUp,y7.1.lease.epoch,y7.1.lease.holder,y7.1.lease.ends,(),()),(y2.1.epoch,y2.1.primary,(),(),()),()),y8.1,y9.1,y7.1.servers,y7.1.sides,y7.1.master.configs,y7.1.places,y2.1.replicas,y2.1.witnesses,())).bind λe47=>Sum.elim (λe47_0=>some ((⟨e47_0.2.1.2.1.1,e47_0.2.2.2.2.1,e47_0.2.2.2.2.2.1,(⟨e47_0.2.2.2.2.2.2.1,e47_0.2.1.2.1.2.2.2.2.1⟩:jZ),e47_0.2.1.2.1.2.2.2.2.2.1,(⟨e47_0.2.1.2.1.2.2.2.2.2.2.1,e47_0.2.1.2.1.2.2.2.2.2.2.2.1,e47_0.2.1.2.1.2.2.2.2.2.2.2.2.1⟩:uN),e47_0.2.2.2.2.2.2.2.1⟩:qh),e47_0.1.2.2.1,())) (λe47_1=>(Mv (((),(),(),(),(),(),0,()),e47_1.2)).bind λe85=>Sum.elim (λe85_0=>some ((⟨e85_0.2.1.2.1.1,e85_0.2.2.2.2.1,e85_0.2.2.2.2.2.1,(⟨e85_0.2.2.2.2.2.2.1,e85_0.2.1.2.1.2.2.2.2.1⟩:jZ),e85_0.2.1.2.1.2.2.2.2.2.1,(⟨e85_0.2.1.2.1.2.2.2.2.2.2.1,e85_0.2.1.2.1.2.2.2.2.2.2.2.1,e85_0.2.1.2.1.2.2.2.2.2.2.2.2.1⟩:uN),e85_0.2.2.2.2.2.2.2.1⟩:qh),e85_0.1.2.2.1,())) (λe85_1=>(Oz (((),(),(),(),(),(),0,()),e85_1.2)).bind λe130=>(FQ (⟨e130.2.1.1.2.2.2.1,e130.2.1.1.2.2.2.2.1⟩:jZ) e130.2.1.2.2.2.1.1).bind λy131=>some ((⟨e130.2.1.2.2.1.1,e130.2.2.1,e130.2.2.2.1,y131.1,e130.2.1.2.2.1.2.2.2.2.2.1,(⟨0,0,0⟩:uN),e130.2.2.2.2.2.1⟩:qh),0,())) e85) e47)))) none)) none))))
def Re[dE] :=Fg 34 Tryz.f34 Ss OE (λx=>H1 x.1) [F4,Wn,ES,QU,Vh,Xj,Jb,OU] [Vx,Vy,Vz] (by kernel_rfl) λx=>by simp only[H1,tm];kernel_rfl
def Il(a0:qh)(a1:Int):Option (Bool×Unit):=
 (ED a0).bind λy1=>br y1.1 ((EN a1 0 4).bind λy2=>some (y2.1,())) (some (false,()))
def OY[dE] :=Fg 307 Tryz.f307 Kl [.b] (λx=>Il x.1 x.2.1) [ES,FN] [] (by kernel_rfl) λx=>by simp only[Il,tm];kernel_rfl
def Kt(a0:qh)(a1:Int):Option (qh×Int×Unit):=
 (Fz a0).bind λy1=>(Il a0 a1).bind λy2=>br (!y2.1) (some (y1.1,1,())) (iteP (0<=a1) ((a0.servers[a1.toNat]?).bind λx3=>br (!x3.up) (some (y1.1,2,())) (iteP (0<=a1/\a1<(y1.1.servers.length:Int)) ((y1.1.servers[a1.toNat]?).bind λx4=>some ((⟨y1.1.now,(y1.1.servers.set a1.toNat (⟨false,x4.intact,x4.version,x4.epoch,x4.config,x4.first,x4.log,x4.commit,x4.learned⟩:qk)),y1.1.sides,y1.1.master,y1.1.masterUp,y1.1.lease,y1.1.places⟩:qh),0,())) none)) none)
def Vd[dE] :=Fg 291 Tryz.f291 Kl OE (λx=>Kt x.1 x.2.1) [F4,OY] [] (by kernel_rfl) λx=>by simp only[Kt,tm];kernel_rfl
def Jt(a0:qh)(a1:Int):Option (qh×Int×Unit):=
 (Fz a0).bind λy1=>(Il a0 a1).bind λy2=>br (!y2.1) (some (y1.1,1,())) (iteP (0<=a1) ((a0.servers[a1.toNat]?).bind λx3=>br x3.up (some (y1.1,1,())) (iteP (0<=a1/\a1<(y1.1.servers.length:Int)) ((y1.1.servers[a1.toNat]?).bind λx4=>some ((⟨y1.1.now,(y1.1.servers.set a1.toNat (⟨true,x4.intact,x4.version,x4.epoch,x4.config,x4.first,x4.log,x4.commit,x4.learned⟩:qk)),y1.1.sides,y1.1.master,y1.1.masterUp,y1.1.lease,y1.1.places⟩:qh),0,())) none)) none)
def Tq[dE] :=Fg 292 Tryz.f292 Kl OE (λx=>Jt x.1 x.2.1) [F4,OY] [] (by kernel_rfl) λx=>by simp only[Jt,tm];kernel_rfl
def Nf(a0:qk):Option (qk×Unit):=
 some ((⟨a0.up,false,a0.version,0,(⟨0,0,([]:List Int),([]:List Int)⟩:nG),0,([]:List rp),0,([]:List rp)⟩:qk),())
def Ww[dE] :=Fg 308 Tryz.f308 VV abO (λx=>Nf x.1) [] [] (by kernel_rfl) λx=>by simp only[Nf,tm];kernel_rfl
def ND(a0:qh)(a1:Int):Option (qh×Int×Unit):=
 (Fz a0).bind λy1=>(Il a0 a1).bind λy2=>br (!y2.1) (some (y1.1,1,())) (iteP (0<=a1) ((a0.servers[a1.toNat]?).bind λx3=>(Nf x3).bind λy4=>iteP (0<=a1/\a1<(y1.1.servers.length:Int)) ((y1.1.servers[a1.toNat]?).bind λ_=>some ((⟨y1.1.now,(y1.1.servers.set a1.toNat y4.1),y1.1.sides,y1.1.master,y1.1.masterUp,y1.1.lease,y1.1.places⟩:qh),0,())) none) none)
def Ya[dE] :=Fg 293 Tryz.f293 Kl OE (λx=>ND x.1 x.2.1) [F4,OY,Ww] [] (by kernel_rfl) λx=>by simp only[ND,tm];kernel_rfl
def NE(a0:List Int)(a1:Int)(a2:Int):Option ((List Int)×Bool×Unit):=
 iteP ((([]:List Int)++a0).length*8<=2 ^ 40) ((HD a0).bind λy1=>br (!y1.1) (some ((([]:List Int)++a0),false,())) ((EN a1 0 4).bind λy2=>br (!y2.1) (some ((([]:List Int)++a0),false,())) ((EN a2 0 3).bind λy3=>br (!y3.1) (some ((([]:List Int)++a0),false,())) (iteP (0<=a1/\a1<((([]:List Int)++a0).length:Int)) (((([]:List Int)++a0)[a1.toNat]?).bind λ_=>some (((([]:List Int)++a0).set a1.toNat a2),true,())) none)))) none
def Yb[dE] :=Fg 309 Tryz.f309 aaz [.ls (.i .i64),.b] (λx=>NE x.1 x.2.1 x.2.2.1) [Pp,FN] [] (by kernel_rfl) λx=>by simp only[NE,tm];kernel_rfl
def Lj(a0:qh)(a1:Int)(a2:Int):Option (qh×Int×Unit):=
 (Fz a0).bind λy1=>(NE a0.sides a1 a2).bind λy2=>(ED a0).bind λy3=>br (!y3.1) (some (y1.1,1,())) (br (!y2.2.1) (some (y1.1,1,())) (some ((⟨y1.1.now,y1.1.servers,y2.1,y1.1.master,y1.1.masterUp,y1.1.lease,y1.1.places⟩:qh),0,())))
def Wq[dE] :=Fg 294 Tryz.f294 Su OE (λx=>Lj x.1 x.2.1 x.2.2.1) [F4,Yb,ES] [] (by kernel_rfl) λx=>by simp only[Lj,tm];kernel_rfl
def Lo(a0:qh)(a1:Int):Option (qh×Int×Unit):=
 (Fz a0).bind λy1=>(ED a0).bind λy2=>br (!y2.1) (some (y1.1,1,())) ((EN a1 0 3).bind λy3=>br (!y3.1) (some (y1.1,1,())) (some ((⟨y1.1.now,y1.1.servers,y1.1.sides,y1.1.master,a1,y1.1.lease,y1.1.places⟩:qh),0,())))
def Wu[dE] :=Fg 295 Tryz.f295 Kl OE (λx=>Lo x.1 x.2.1) [F4,ES,FN] [] (by kernel_rfl) λx=>by simp only[Lo,tm];kernel_rfl
def LW(a0:qh)(a1:Int):Option (qh×Int×Unit):=
 (Fz a0).bind λy1=>(ED a0).bind λy2=>br (!y2.1) (some (y1.1,1,())) ((EN a1 0 (aeq .i64 (999-a0.now))).bind λy3=>br (!y3.1) (some (y1.1,1,())) (some ((⟨(aeq .i64 (a0.now+a1)),y1.1.servers,y1.1.sides,y1.1.master,y1.1.masterUp,y1.1.lease,y1.1.places⟩:qh),0,())))
def Ui[dE] :=Fg 59 Tryz.f59 Kl OE (λx=>LW x.1 x.2.1) [F4,ES,FN] [] (by kernel_rfl) λx=>by simp only[LW,tm];kernel_rfl
def MG(a0:qh)(a1:Int)(a2:Int):Option (Bool×Unit):=
 (ED a0).bind λy1=>br (!y1.1) (some (false,())) ((F5 a0.sides a1 a2).bind λy2=>br (!y2.1) (some (false,())) (br (a1==a2) (some (false,())) (iteP (0<=a1) ((a0.servers[a1.toNat]?).bind λx3=>(Fm x3.config a1).bind λy4=>br x3.up (iteP (0<=a2) ((a0.servers[a2.toNat]?).bind λx5=>br x5.up (br (y4.1==1) (br (x3.config.epoch==a0.master.activated) ((Fm x3.config a2).bind λy6=>some ((y6.1==0),())) (some (false,()))) (br (y4.1==2) (br (x3.config.epoch==a0.master.activated) ((Fm x3.config a2).bind λy7=>some ((y7.1==0),())) (some (false,()))) (some (false,())))) (some (false,()))) none) (some (false,()))) none)))
def Xm[dE] :=Fg 313 Tryz.f313 Su [.b] (λx=>MG x.1 x.2.1 x.2.2.1) [ES,L5,OX] [] (by kernel_rfl) λx=>by simp only[MG,tm];kernel_rfl
abbrev OG:LX:=⟨⟨[(0,.cl (.int .i64)),Y0,S4],[],[],0,31⟩,[(.ext 0,⟨[Y0,S4],[],[],0,31⟩)],[],[0,3,4],[3,4]⟩
def Me(s: (Int×ByteArray×Bool×Unit)×Unit×Unit):OG.R:=
 br (!(s.1.1==0)) (let j5 (p4:Int):OG.R:=iteP (0<([(aeq .u8 (aeq .i64 (48+p4)))]:List Int).length/\0+([(aeq .u8 (aeq .i64 (48+p4)))]:List Int).length<=([(aeq .u8 (aeq .i64 (48+p4)))]:List Int).length) (iteP ((BM ((([(aeq .u8 (aeq .i64 (48+p4)))]:List Int).drop 0).take (([(aeq .u8 (aeq .i64 (48+p4)))]:List Int).length))).size+s.1.2.1.size<=2 ^ 40) (some (.inl (((aeq .i64 (Int.tdiv s.1.1 10)),((BM ((([(aeq .u8 (aeq .i64 (48+p4)))]:List Int).drop 0).take (([(aeq .u8 (aeq .i64 (48+p4)))]:List Int).length)))++s.1.2.1),s.1.2.2),(()),(())))) none) none;br (decide ((Int.tmod s.1.1 10)<0)) (j5 (aeq .i64 (0-(Int.tmod s.1.1 10)))) (j5 (Int.tmod s.1.1 10))) (some (.inr (s.1.2,(()),(()))))
def Vk:=ny Me
def VB[dE] :=H5 Tryz.f320 [0] OG Me [] [] (by kernel_rfl) λs=>by simp only[Me,tm];kernel_rfl
def G5(a0:Int):Option (ByteArray×Unit):=
 br (a0==0) (some ((⟨⟨[48]⟩⟩:ByteArray),())) ((Vk ((a0,ByteArray.empty,(decide (a0<0)),()),(()),(()))).bind λe6=>br e6.1.2.1 (iteP ((⟨⟨[45]⟩⟩:ByteArray).size+e6.1.1.size<=2 ^ 40) (some (((⟨⟨[45]⟩⟩:ByteArray)++e6.1.1),())) none) (some (e6.1.1,())))
def SO[dE] :=Fg 320 Tryz.f320 WG [.s] (λx=>G5 x.1) [] [VB] (by kernel_rfl) λx=>by simp only[G5,tm];kernel_rfl
def NC(a0:Op):Option (ByteArray×Unit):=
 (FI a0).bind λy1=>br (!y1.1) (some (ByteArray.empty,())) ((G5 a0.client).bind λy2=>iteP (y2.1.size+(⟨⟨[46]⟩⟩:ByteArray).size<=2 ^ 40) ((G5 a0.seq).bind λy3=>iteP ((y2.1++(⟨⟨[46]⟩⟩:ByteArray)).size+y3.1.size<=2 ^ 40) (iteP (((y2.1++(⟨⟨[46]⟩⟩:ByteArray))++y3.1).size+(⟨⟨[32]⟩⟩:ByteArray).size<=2 ^ 40) (br (a0.kind==1) (iteP ((((y2.1++(⟨⟨[46]⟩⟩:ByteArray))++y3.1)++(⟨⟨[32]⟩⟩:ByteArray)).size+(⟨⟨[119,114,105,116,101,32]⟩⟩:ByteArray).size<=2 ^ 40) ((G5 a0.object).bind λy4=>iteP (((((y2.1++(⟨⟨[46]⟩⟩:ByteArray))++y3.1)++(⟨⟨[32]⟩⟩:ByteArray))++(⟨⟨[119,114,105,116,101,32]⟩⟩:ByteArray)).size+y4.1.size<=2 ^ 40) (iteP ((((((y2.1++(⟨⟨[46]⟩⟩:ByteArray))++y3.1)++(⟨⟨[32]⟩⟩:ByteArray))++(⟨⟨[119,114,105,116,101,32]⟩⟩:ByteArray))++y4.1).size+(⟨⟨[32]⟩⟩:ByteArray).size<=2 ^ 40) ((G5 a0.value).bind λy5=>iteP (((((((y2.1++(⟨⟨[46]⟩⟩:ByteArray))++y3.1)++(⟨⟨[32]⟩⟩:ByteArray))++(⟨⟨[119,114,105,116,101,32]⟩⟩:ByteArray))++y4.1)++(⟨⟨[32]⟩⟩:ByteArray)).size+y5.1.size<=2 ^ 40) (some ((((((((y2.1++(⟨⟨[46]⟩⟩:ByteArray))++y3.1)++(⟨⟨[32]⟩⟩:ByteArray))++(⟨⟨[119,114,105,116,101,32]⟩⟩:ByteArray))++y4.1)++(⟨⟨[32]⟩⟩:ByteArray))++y5.1),())) none) none) none) none) (iteP ((((y2.1++(⟨⟨[46]⟩⟩:ByteArray))++y3.1)++(⟨⟨[32]⟩⟩:ByteArray)).size+(⟨⟨[115,119,97,112,32]⟩⟩:ByteArray).size<=2 ^ 40) ((G5 a0.object).bind λy6=>iteP (((((y2.1++(⟨⟨[46]⟩⟩:ByteArray))++y3.1)++(⟨⟨[32]⟩⟩:ByteArray))++(⟨⟨[115,119,97,112,32]⟩⟩:ByteArray)).size+y6.1.size<=2 ^ 40) (iteP ((((((y2.1++(⟨⟨[46]⟩⟩:ByteArray))++y3.1)++(⟨⟨[32]⟩⟩:ByteArray))++(⟨⟨[115,119,97,112,32]⟩⟩:ByteArray))++y6.1).size+(⟨⟨[32]⟩⟩:ByteArray).size<=2 ^ 40) ((G5 a0.old).bind λy7=>iteP (((((((y2.1++(⟨⟨[46]⟩⟩:ByteArray))++y3.1)++(⟨⟨[32]⟩⟩:ByteArray))++(⟨⟨[115,119,97,112,32]⟩⟩:ByteArray))++y6.1)++(⟨⟨[32]⟩⟩:ByteArray)).size+y7.1.size<=2 ^ 40) (iteP ((((((((y2.1++(⟨⟨[46]⟩⟩:ByteArray))++y3.1)++(⟨⟨[32]⟩⟩:ByteArray))++(⟨⟨[115,119,97,112,32]⟩⟩:ByteArray))++y6.1)++(⟨⟨[32]⟩⟩:ByteArray))++y7.1).size+(⟨⟨[32]⟩⟩:ByteArray).size<=2 ^ 40) ((G5 a0.value).bind λy8=>iteP (((((((((y2.1++(⟨⟨[46]⟩⟩:ByteArray))++y3.1)++(⟨⟨[32]⟩⟩:ByteArray))++(⟨⟨[115,119,97,112,32]⟩⟩:ByteArray))++y6.1)++(⟨⟨[32]⟩⟩:ByteArray))++y7.1)++(⟨⟨[32]⟩⟩:ByteArray)).size+y8.1.size<=2 ^ 40) (some ((((((((((y2.1++(⟨⟨[46]⟩⟩:ByteArray))++y3.1)++(⟨⟨[32]⟩⟩:ByteArray))++(⟨⟨[115,119,97,112,32]⟩⟩:ByteArray))++y6.1)++(⟨⟨[32]⟩⟩:ByteArray))++y7.1)++(⟨⟨[32]⟩⟩:ByteArray))++y8.1),())) none) none) none) none) none) none)) none) none) none)
def X8[dE] :=Fg 321 Tryz.f321 Xt [.s] (λx=>NC x.1) [MM,SO] [] (by kernel_rfl) λx=>by simp only[NC,tm];kernel_rfl
abbrev OH:LX:=⟨⟨[Qk,Y0,Of],[],[],0,38⟩,[(.ext 0,⟨[Y0],[],[],0,38⟩)],[],[0,3,4],[3]⟩
def Mf(s: (List rp×ByteArray×Int×Unit)×Unit×Unit):OH.R:=
 br (decide (s.1.2.2.1<(s.1.1.length:Int))) (let j10 (p5:ByteArray):OH.R:=iteP (0<=s.1.2.2.1) ((s.1.1[s.1.2.2.1.toNat]?).bind λx6=>(G5 x6.epoch).bind λy7=>iteP (p5.size+y7.1.size<=2 ^ 40) (iteP ((p5++y7.1).size+(⟨⟨[58]⟩⟩:ByteArray).size<=2 ^ 40) (iteP (0<=s.1.2.2.1) ((s.1.1[s.1.2.2.1.toNat]?).bind λx8=>(NC x8.op).bind λy9=>iteP (((p5++y7.1)++(⟨⟨[58]⟩⟩:ByteArray)).size+y9.1.size<=2 ^ 40) (some (.inl ((s.1.1,(((p5++y7.1)++(⟨⟨[58]⟩⟩:ByteArray))++y9.1),(aeq .i64 (s.1.2.2.1+1)),()),(()),(())))) none) none) none) none) none;br (decide (s.1.2.2.1>0)) (iteP (s.1.2.1.size+(⟨⟨[59]⟩⟩:ByteArray).size<=2 ^ 40) (j10 (s.1.2.1++(⟨⟨[59]⟩⟩:ByteArray))) none) (j10 s.1.2.1)) (some (.inr ((s.1.2.1,()),(()),(()))))
def Vl:=ny Mf
def VD[dE] :=H5 Tryz.f319 [0] OH Mf [SO,X8] [] (by kernel_rfl) λs=>by simp only[Mf,tm];kernel_rfl
def MA(a0:List rp):Option (ByteArray×Unit):=
 (FE a0).bind λy1=>br (!y1.1) (some (ByteArray.empty,())) (br ((a0.length:Int)==0) (some ((⟨⟨[110,111,110,101]⟩⟩:ByteArray),())) ((Vl ((a0,ByteArray.empty,0,()),(()),(()))).bind λe11=>some e11.1))
def Xf[dE] :=Fg 319 Tryz.f319 RU [.s] (λx=>MA x.1) [Nk] [VD] (by kernel_rfl) λx=>by simp only[MA,tm];kernel_rfl
abbrev R0:LX:=⟨⟨[(0,.cl (.str)),OC,Of],[],[],0,21⟩,[(.ext 0,⟨[OC],[],[],0,21⟩)],[],[0,3,4],[3]⟩
def M7(s: (ByteArray×Int×Int×Unit)×Unit×Unit):R0.R:=
 br (decide (s.1.2.2.1<(s.1.1.size:Int))) (iteP (0<=s.1.2.2.1) ((s.1.1[s.1.2.2.1.toNat]?).bind λx4=>some (.inl ((s.1.1,(Int.tmod (aeq .i64 ((aeq .i64 ((aeq .i64 (s.1.2.1*257))+(aeq .i64 (x4.toNat:Int))))+1)) 9949),(aeq .i64 (s.1.2.2.1+1)),()),(()),(())))) none) (some (.inr ((s.1.2.1,()),(()),(()))))
def WD:=ny M7
def WM[dE] :=H5 Tryz.f318 [0] R0 M7 [] [] (by kernel_rfl) λs=>by simp only[M7,tm];kernel_rfl
def NA(a0:ByteArray):Option (Int×Unit):=
 (WD ((a0,5,0,()),(()),(()))).bind λe5=>some e5.1
def X6[dE] :=Fg 318 Tryz.f318 [.ty (.s)] JJ (λx=>NA x.1) [] [WM] (by kernel_rfl) λx=>by simp only[NA,tm];kernel_rfl
abbrev Qs:LX:=⟨⟨[Qk,VW,Of,Nm],[],Jl,0,37⟩,[(.ext 0,⟨[VW],[],Jl,0,37⟩)],[],[0,3,4,5],[3]⟩
def K6(s:acQ×Unit×List Int×Unit):Qs.R:=
 br (decide (s.1.2.2.2.1<(s.1.1.length:Int))) (iteP (0<=s.1.2.2.2.1/\s.1.2.2.2.1<=(aeq .i64 (s.1.2.2.2.1+1))/\(aeq .i64 (s.1.2.2.2.1+1))<=(s.1.1.length:Int)) ((MA ((s.1.1.drop s.1.2.2.2.1.toNat).take ((aeq .i64 (s.1.2.2.2.1+1)).toNat-s.1.2.2.2.1.toNat))).bind λy6=>(NA y6.1).bind λy7=>iteP ((s.2.2.1++([(Int.tmod (aeq .i64 ((aeq .i64 (s.1.2.2.1*31))+y7.1)) 9973)]:List Int)).length*8<=2 ^ 40) (some (.inl ((s.1.1,(),(Int.tmod (aeq .i64 ((aeq .i64 (s.1.2.2.1*31))+y7.1)) 9973),(aeq .i64 (s.1.2.2.2.1+1)),()),(()),(s.2.2.1++([(Int.tmod (aeq .i64 ((aeq .i64 (s.1.2.2.1*31))+y7.1)) 9973)]:List Int)),()))) none) none) (some (.inr (((),()),(()),s.2.2)))
def Uu:=ny K6
def UP[dE] :=H5 Tryz.f317 [0] Qs K6 [Xf,X6] [] (by kernel_rfl) λs=>by simp only[K6,tm];kernel_rfl
def Le(a0:List rp):Option ((List Int)×Unit):=
 (FE a0).bind λy1=>br (!y1.1) (some (([]:List Int),())) (iteP ((([]:List Int)++([11]:List Int)).length*8<=2 ^ 40) ((Uu ((a0,(),11,0,()),(()),(([]:List Int)++([11]:List Int)),())).bind λe8=>some e8.2.2) none)
def Wk[dE] :=Fg 317 Tryz.f317 RU K4 (λx=>Le x.1) [Nk] [UP] (by kernel_rfl) λx=>by simp only[Le,tm];kernel_rfl
def LV(a0:List rp)(a1:Int):Option (Int×Unit):=
 (Le a0).bind λy1=>(EN a1 0 (aeq .i64 ((y1.1.length:Int)-1))).bind λy2=>br (!y2.1) (some ((-1),())) (iteP (0<=a1/\a1<(y1.1.length:Int)) ((y1.1[a1.toNat]?).bind λx3=>some (x3,())) none)
def Uf[dE] :=Fg 316 Tryz.f316 aaA JJ (λx=>LV x.1 x.2.1) [Wk,FN] [] (by kernel_rfl) λx=>by simp only[LV,tm];kernel_rfl
def KK(a0:qk):Option (Int×Unit):=
 (LV a0.learned (a0.learned.length:Int)).bind λy1=>some (y1.1,())
def Tp[dE] :=Fg 315 Tryz.f315 VV JJ (λx=>KK x.1) [Uf] [] (by kernel_rfl) λx=>by simp only[KK,tm];kernel_rfl
def Lm(a0:List rp)(a1:Int)(a2:Int):Option (Bool×Unit):=
 br (decide (a2≥0)) ((LV a0 a1).bind λy1=>some ((y1.1==a2),())) (some (false,()))
def Uk[dE] :=Fg 314 Tryz.f314 acm [.b] (λx=>Lm x.1 x.2.1 x.2.2.1) [Uf] [] (by kernel_rfl) λx=>by simp only[Lm,tm];kernel_rfl
def Kr(a0:qh)(a1:Int)(a2:Int):Option (Int×Unit):=
 (MG a0 a1 a2).bind λy1=>br (!y1.1) (some ((-1),())) (iteP (0<=a1) ((a0.servers[a1.toNat]?).bind λx2=>(Fl x2).bind λy3=>iteP (0<=a2) ((a0.servers[a2.toNat]?).bind λx4=>iteP (0<=a2) ((a0.servers[a2.toNat]?).bind λx5=>(KK x5).bind λy6=>(Lm y3.1 (x4.learned.length:Int) y6.1).bind λy7=>br (!y7.1) (some ((aeq .i64 ((y3.1.length:Int)-0)),())) (some ((aeq .i64 ((y3.1.length:Int)-(x4.learned.length:Int))),()))) none) none) none)
def Vb[dE] :=Fg 310 Tryz.f310 Su JJ (λx=>Kr x.1 x.2.1 x.2.2.1) [Xm,Jv,Tp,Uk] [] (by kernel_rfl) λx=>by simp only[Kr,tm];kernel_rfl
def Ks(a0:qh)(a1:Int)(a2:Int)(a3:Int):Option (qh×Int×Unit):=
 (Fz a0).bind λy1=>(Kr a0 a1 a2).bind λy2=>br (decide (y2.1<0)) (some (y1.1,0,())) ((EN a3 1 4).bind λy3=>br (!y3.1) (some (y1.1,0,())) (iteP (0<=a1) ((a0.servers[a1.toNat]?).bind λx4=>(Fl x4).bind λy5=>iteP (0<=(0:Int)/\(0:Int)<=(aeq .i64 ((aeq .i64 ((y5.1.length:Int)-y2.1))+(if a3<y2.1 then a3 else y2.1)))/\(aeq .i64 ((aeq .i64 ((y5.1.length:Int)-y2.1))+(if a3<y2.1 then a3 else y2.1)))<=((y5.1.length:Nat):Int)) (iteP ((0+(0:Int).toNat)+((aeq .i64 ((aeq .i64 ((y5.1.length:Int)-y2.1))+(if a3<y2.1 then a3 else y2.1))).toNat-(0:Int).toNat)<=y5.1.length) ((Gt ((y5.1.drop (0+(0:Int).toNat)).take ((aeq .i64 ((aeq .i64 ((y5.1.length:Int)-y2.1))+(if a3<y2.1 then a3 else y2.1))).toNat-(0:Int).toNat))).bind λy6=>iteP (0<=a2/\a2<(y1.1.servers.length:Int)) ((y1.1.servers[a2.toNat]?).bind λx7=>some ((⟨y1.1.now,(y1.1.servers.set a2.toNat (⟨x7.up,x7.intact,x7.version,x7.epoch,x7.config,x7.first,x7.log,x7.commit,y6.1⟩:qk)),y1.1.sides,y1.1.master,y1.1.masterUp,y1.1.lease,y1.1.places⟩:qh),(if a3<y2.1 then a3 else y2.1),())) none) none) none) none))
def Vc[dE] :=Fg 296 Tryz.f296 acw OE (λx=>Ks x.1 x.2.1 x.2.2.1 x.2.2.2.1) [F4,Vb,FN,Jv,KA] [] (by kernel_rfl) λx=>by simp only[Ks,tm];kernel_rfl
def Ju(a0:qh)(a1:Int):Option (qh×Int×Unit):=
 (Fz a0).bind λy1=>(Il a0 a1).bind λy2=>br (!y2.1) (some (y1.1,1,())) (iteP (0<=a1) ((a0.servers[a1.toNat]?).bind λx3=>br (x3.version==2) (some (y1.1,1,())) (iteP (0<=a1) ((a0.servers[a1.toNat]?).bind λx4=>br (!x4.up) (some (y1.1,2,())) (iteP (0<=a1/\a1<(y1.1.servers.length:Int)) ((y1.1.servers[a1.toNat]?).bind λx5=>some ((⟨y1.1.now,(y1.1.servers.set a1.toNat (⟨x5.up,x5.intact,2,x5.epoch,x5.config,x5.first,x5.log,x5.commit,x5.learned⟩:qk)),y1.1.sides,y1.1.master,y1.1.masterUp,y1.1.lease,y1.1.places⟩:qh),0,())) none)) none)) none)
def Ts[dE] :=Fg 297 Tryz.f297 Kl OE (λx=>Ju x.1 x.2.1) [F4,OY] [] (by kernel_rfl) λx=>by simp only[Ju,tm];kernel_rfl
def I4(a0:List rp):Option (Bool×Unit):=
 (Ft a0).bind λy1=>some (y1.1,())
def P6[dE] :=Fg 311 Tryz.f311 RU [.b] (λx=>I4 x.1) [NM] [] (by kernel_rfl) λx=>by simp only[I4,tm];kernel_rfl
abbrev J0:LX:=⟨⟨[KG,Mc,Qg,VY,aaC,PE],[JZ,K5,WH,aaR],Yw,0,80⟩,[(.ret,⟨[KG,Qh,Nm,PO],[WH,WH],Yw,0,80⟩),(.ext 0,⟨[KG,Qh,(5,.cl (.dead)),PO],[K5,WH],Yw,0,80⟩)],[],[1,2,4,6,7,8],[1,4,5,6]⟩
def Ip(s: (Int×Unit×Unit×Unit×Unit×Int×Unit)×(Nn×LL×LL×aaL×Unit)×List qk×List Int×List nG×List uQ×Unit):J0.R:=
 br (decide (s.1.2.2.2.2.2.1<(s.2.1.1.2.1.length:Int))) ((JD (⟨s.2.1.2.2.2.1.2.2.2.2.1,s.2.1.2.2.2.1.2.2.2.2.2.1,s.2.1.2.2.2.1.2.2.2.2.2.2.1,s.2.1.2.2.2.1.2.2.2.2.2.2.2.1⟩:nG)).bind λy47=>br (!y47.1) (iteP (0<=s.1.2.2.2.2.2.1) ((s.2.1.1.2.1[s.1.2.2.2.2.2.1.toNat]?).bind λx48=>(GX x48.config (⟨s.2.1.2.2.2.1.2.2.2.2.1,s.2.1.2.2.2.1.2.2.2.2.2.1,s.2.1.2.2.2.1.2.2.2.2.2.2.1,s.2.1.2.2.2.1.2.2.2.2.2.2.2.1⟩:nG)).bind λy49=>let j52:J0.R:=some (.inl ((s.1.1,(),(),(),(),(aeq .i64 (s.1.2.2.2.2.2.1+1)),()),s.2));br y49.1 (iteP (0<=s.1.2.2.2.2.2.1) ((s.2.1.1.2.1[s.1.2.2.2.2.2.1.toNat]?).bind λx50=>(I4 x50.log).bind λy51=>br y51.1 (some (.inr (.inl ((s.1.1,(),6,(),()),(s.2.1.2.2.1,s.2.1.2.2.1,()),s.2.2)))) (j52)) none) (j52)) none) (some (.inr (.inr ((s.1.1,(),(),(),()),(s.2.1.2.1,s.2.1.2.2.1,()),s.2.2))))) (some (.inr (.inr ((s.1.1,(),(),(),()),(s.2.1.2.1,s.2.1.2.2.1,()),s.2.2))))
def Qe:=ny Ip
def Qy[dE] :=H5 Tryz.f298 [0] J0 Ip [P6,QJ,Ls] [] (by kernel_rfl) λs=>by simp only[Ip,tm];kernel_rfl
def Ix(a0:qh)(a1:Int):Option (qh×Int×Unit):=
 (Fz a0).bind λy1=>(Il a0 a1).bind λy2=>br (!y2.1) (some (y1.1,1,())) (iteP (0<=a1) ((a0.servers[a1.toNat]?).bind λx3=>br (x3.version==1) (some (y1.1,1,())) (iteP (0<=a1) ((a0.servers[a1.toNat]?).bind λx4=>br (!x4.up) (some (y1.1,2,())) (iteP (0<=a1) ((a0.servers[a1.toNat]?).bind λx5=>(I4 x5.learned).bind λy6=>br y6.1 (some (y1.1,6,())) ((Qe ((a1,(),(),(),(),0,()),((a0.now,a0.servers,a0.sides,a0.master.configs,a0.master.activated,a0.masterUp,a0.lease.epoch,a0.lease.holder,a0.lease.ends,a0.places,()),(0,(),(),(),0,0,0,0,0,(),()),(y1.1.now,(),(),(),y1.1.master.activated,y1.1.masterUp,y1.1.lease.epoch,y1.1.lease.holder,y1.1.lease.ends,(),()),(x5.up,x5.intact,x5.version,x5.epoch,x5.config.epoch,x5.config.primary,x5.config.replicas,x5.config.witnesses,x5.first,x5.log,x5.commit,x5.learned,()),()),y1.1.servers,y1.1.sides,y1.1.master.configs,y1.1.places,())).bind λe53=>Sum.elim (λe53_0=>some ((⟨e53_0.2.1.1.1,e53_0.2.2.1,e53_0.2.2.2.1,(⟨e53_0.2.2.2.2.1,e53_0.2.1.1.2.2.2.2.1⟩:jZ),e53_0.2.1.1.2.2.2.2.2.1,(⟨e53_0.2.1.1.2.2.2.2.2.2.1,e53_0.2.1.1.2.2.2.2.2.2.2.1,e53_0.2.1.1.2.2.2.2.2.2.2.2.1⟩:uN),e53_0.2.2.2.2.2.1⟩:qh),e53_0.1.2.2.1,())) (λe53_1=>iteP (0<=e53_1.1.1/\e53_1.1.1<(e53_1.2.2.1.length:Int)) ((e53_1.2.2.1[e53_1.1.1.toNat]?).bind λx54=>some ((⟨e53_1.2.1.2.1.1,(e53_1.2.2.1.set e53_1.1.1.toNat (⟨x54.up,x54.intact,1,x54.epoch,x54.config,x54.first,x54.log,x54.commit,x54.learned⟩:qk)),e53_1.2.2.2.1,(⟨e53_1.2.2.2.2.1,e53_1.2.1.2.1.2.2.2.2.1⟩:jZ),e53_1.2.1.2.1.2.2.2.2.2.1,(⟨e53_1.2.1.2.1.2.2.2.2.2.2.1,e53_1.2.1.2.1.2.2.2.2.2.2.2.1,e53_1.2.1.2.1.2.2.2.2.2.2.2.2.1⟩:uN),e53_1.2.2.2.2.2.1⟩:qh),0,())) none) e53)) none)) none)) none)
def RL[dE] :=Fg 298 Tryz.f298 Kl OE (λx=>Ix x.1 x.2.1) [F4,OY,P6] [Qy] (by kernel_rfl) λx=>by simp only[Ix,tm];kernel_rfl
abbrev N7:LX:=⟨⟨[LD,SZ,NZ,Om],[JZ,ZI],aaV,0,64⟩,[(.ret,⟨[QY,S6],[aaS],aaU,0,64⟩),(.ext 0,⟨[NY,S6],[aaS],aaU,0,64⟩)],[],[1,3,5,6],[2,3]⟩
def Gc(s:abN×(Nn×Sv×Unit)×List Int×List Int×List Int×Unit):N7.R:=
 br (decide (s.1.2.2.2.1<(s.2.2.1.length:Int))) (iteP (0<=s.1.2.2.2.1/\s.1.2.2.2.1<(s.2.2.1.length:Int)) ((s.2.2.1[s.1.2.2.2.1.toNat]?).bind λx23=>(Fw (⟨s.2.1.1.1,s.2.1.1.2.1,s.2.1.1.2.2.1,(⟨s.2.1.1.2.2.2.1,s.2.1.1.2.2.2.2.1⟩:jZ),s.2.1.1.2.2.2.2.2.1,(⟨s.2.1.1.2.2.2.2.2.2.1,s.2.1.1.2.2.2.2.2.2.2.1,s.2.1.1.2.2.2.2.2.2.2.2.1⟩:uN),s.2.1.1.2.2.2.2.2.2.2.2.2.1⟩:qh) s.2.1.2.1.2.1 x23).bind λy24=>br (!y24.1) (some (.inr (.inl (((-1),(),()),s.2.1.2,s.2.2.2)))) (some (.inl (((),(),(),(aeq .i64 (s.1.2.2.2.1+1)),()),s.2)))) none) (some (.inr (.inr (((),(),()),s.2.1.2,s.2.2.2))))
def KU:=ny Gc
def Rt[dE] :=H5 Tryz.f15 [0] N7 Gc [Uo] [] (by kernel_rfl) λs=>by simp only[Gc,tm];kernel_rfl
def Fy(a0:qh):Option (Int×Unit):=
 (EF a0.master).bind λy1=>(ED a0).bind λy2=>br (!y2.1) (some ((-1),())) (br (!y1.2.1) (some ((-1),())) (iteP (0<=y1.1.primary) ((a0.servers[y1.1.primary.toNat]?).bind λx3=>(EV x3 y1.1.primary).bind λy4=>br (!y4.1) (some ((-1),())) (iteP (0<=y1.1.primary) ((a0.servers[y1.1.primary.toNat]?).bind λx5=>br (!(x5.config.epoch==y1.1.epoch)) (some ((-1),())) ((Fd y1.1).bind λy6=>(KU (((),(),(),0,()),((a0.now,a0.servers,a0.sides,a0.master.configs,a0.master.activated,a0.masterUp,a0.lease.epoch,a0.lease.holder,a0.lease.ends,a0.places,()),(y1.1.epoch,y1.1.primary,(),(),()),()),y6.1,y1.1.replicas,y1.1.witnesses,())).bind λe25=>Sum.elim (λe25_0=>some (e25_0.1.1,())) (λe25_1=>some (e25_1.2.1.1.2.1,())) e25)) none)) none))
def Sf[dE] :=Fg 15 Tryz.f15 Ss JJ (λx=>Fy x.1) [Gf,ES,JV,Jb] [Rt] (by kernel_rfl) λx=>by simp only[Fy,tm];kernel_rfl
def HO(a0:qh):Option (Bool×Unit):=
 (Fy a0).bind λy1=>some ((decide (y1.1≥0)),())
def SP[dE] :=Fg 13 Tryz.f13 Ss [.b] (λx=>HO x.1) [Sf] [] (by kernel_rfl) λx=>by simp only[HO,tm];kernel_rfl
def G6(a0:qh)(a1:Int):Option (Int×Unit):=
 (EF a0.master).bind λy1=>(ED a0).bind λy2=>br (!y2.1) (some (1,())) (br (!y1.2.1) (some (1,())) ((FH y1.1.replicas a1).bind λy3=>br (!y3.1) (some (1,())) (br (a1==y1.1.primary) (some (1,())) (br (!((a0.master.configs.length:Int)==y1.1.epoch)) (some (1,())) (br (y1.1.epoch==20) (some (1,())) (br (decide ((aeq .i64 (a0.masterUp*2))<=3)) (some (8,())) ((HO a0).bind λy4=>br (!y4.1) (some (10,())) (iteP (0<=y1.1.primary) ((a0.sides[y1.1.primary.toNat]?).bind λx5=>br (!(x5==0)) (some (10,())) (br (decide (a0.lease.ends>0)) (br (!(a0.lease.holder==y1.1.primary)) (some (7,())) (some (0,()))) (some (0,())))) none))))))))
def P7[dE] :=Fg 25 Tryz.f25 Kl JJ (λx=>G6 x.1 x.2.1) [Gf,ES,HP,SP] [] (by kernel_rfl) λx=>by simp only[G6,tm];kernel_rfl
def FP(a0:qh)(a1:Int):Option (qh×Int×Unit):=
 (Fz a0).bind λy1=>(G6 a0 a1).bind λy2=>br (!(y2.1==0)) (some (y1.1,y2.1,())) ((EF a0.master).bind λy3=>(Fr a0 y3.1.primary).bind λy4=>(Ge (⟨y4.1.now,y4.1.servers,y4.1.sides,y4.1.master,y4.1.masterUp,(⟨0,0,0⟩:uN),y4.1.places⟩:qh) (⟨(aeq .i64 (y3.1.epoch+1)),a1,y3.1.replicas,y3.1.witnesses⟩:nG)).bind λy5=>(H1 y5.1).bind λy6=>some (y6.1,y6.2.1,()))
def PA[dE] :=Fg 23 Tryz.f23 Kl OE (λx=>FP x.1 x.2.1) [F4,P7,Gf,Pw,Ow,Re] [] (by kernel_rfl) λx=>by simp only[FP,tm];kernel_rfl
def Kx(a0:qh)(a1:Int)(a2:Int):Option (qh×Int×Unit):=
 (Fz a0).bind λy1=>(ED a0).bind λy2=>br (!y2.1) (some (y1.1,1,())) ((EN a2 1 50).bind λy3=>br (!y3.1) (some (y1.1,1,())) ((HO a0).bind λy4=>br y4.1 (some (y1.1,0,())) ((J9 a0 a1 0).bind λy5=>br (!y5.2.1) (some (y1.1,10,())) ((Ge a0 y5.1).bind λy6=>br (!(y6.2.1==0)) (some (y1.1,y6.2.1,())) ((LZ a0.lease).bind λy7=>(LW y6.1 (if(aeq .i64 (y7.1-a0.now))>0 then(aeq .i64 (y7.1-a0.now))else 0)).bind λy8=>br (!(y8.2.1==0)) (some (y1.1,y8.2.1,())) ((H1 y8.1).bind λy9=>br (!(y9.2.1==0)) (some (y9.1,y9.2.1,())) ((Ka y9.1 y5.1.primary a2).bind λy10=>some (y10.1,y10.2.1,()))))))))
def Vg[dE] :=Fg 10 Tryz.f10 Su OE (λx=>Kx x.1 x.2.1 x.2.2.1) [F4,ES,FN,SP,RM,Ow,Um,Ui,Re,RN] [] (by kernel_rfl) λx=>by simp only[Kx,tm];kernel_rfl
def OP(a0:qh)(a1:wT):Option (qh×Int×Unit):=
 let j28 (p17:Int) (p18:List qk) (p19:List Int) (p20:List nG) (p21:Int) (p22:Int) (p23:Int) (p24:Int) (p25:Int) (p26:List uQ) (p27:Int):Option (qh×Int×Unit):=some ((⟨p17,p18,p19,(⟨p20,p21⟩:jZ),p22,(⟨p23,p24,p25⟩:uN),p26⟩:qh),p27,());br (a1.kind==3) ((Ka a0 a1.server a1.n).bind λy1=>j28 y1.1.now y1.1.servers y1.1.sides y1.1.master.configs y1.1.master.activated y1.1.masterUp y1.1.lease.epoch y1.1.lease.holder y1.1.lease.ends y1.1.places y1.2.1) (br (a1.kind==4) ((J9 a0 a1.n a1.other).bind λy2=>br (!y2.2.1) ((Fz a0).bind λy3=>some (y3.1,10,())) ((Ge a0 y2.1).bind λy4=>j28 y4.1.now y4.1.servers y4.1.sides y4.1.master.configs y4.1.master.activated y4.1.masterUp y4.1.lease.epoch y4.1.lease.holder y4.1.lease.ends y4.1.places y4.2.1)) (br (a1.kind==5) ((H1 a0).bind λy5=>j28 y5.1.now y5.1.servers y5.1.sides y5.1.master.configs y5.1.master.activated y5.1.masterUp y5.1.lease.epoch y5.1.lease.holder y5.1.lease.ends y5.1.places y5.2.1) (br (a1.kind==6) ((Kt a0 a1.server).bind λy6=>j28 y6.1.now y6.1.servers y6.1.sides y6.1.master.configs y6.1.master.activated y6.1.masterUp y6.1.lease.epoch y6.1.lease.holder y6.1.lease.ends y6.1.places y6.2.1) (br (a1.kind==7) ((Jt a0 a1.server).bind λy7=>j28 y7.1.now y7.1.servers y7.1.sides y7.1.master.configs y7.1.master.activated y7.1.masterUp y7.1.lease.epoch y7.1.lease.holder y7.1.lease.ends y7.1.places y7.2.1) (br (a1.kind==8) ((ND a0 a1.server).bind λy8=>j28 y8.1.now y8.1.servers y8.1.sides y8.1.master.configs y8.1.master.activated y8.1.masterUp y8.1.lease.epoch y8.1.lease.holder y8.1.lease.ends y8.1.places y8.2.1) (br (a1.kind==9) ((Lj a0 a1.server a1.n).bind λy9=>j28 y9.1.now y9.1.servers y9.1.sides y9.1.master.configs y9.1.master.activated y9.1.masterUp y9.1.lease.epoch y9.1.lease.holder y9.1.lease.ends y9.1.places y9.2.1) (br (a1.kind==10) ((Lo a0 a1.n).bind λy10=>j28 y10.1.now y10.1.servers y10.1.sides y10.1.master.configs y10.1.master.activated y10.1.masterUp y10.1.lease.epoch y10.1.lease.holder y10.1.lease.ends y10.1.places y10.2.1) (br (a1.kind==11) ((LW a0 a1.n).bind λy11=>j28 y11.1.now y11.1.servers y11.1.sides y11.1.master.configs y11.1.master.activated y11.1.masterUp y11.1.lease.epoch y11.1.lease.holder y11.1.lease.ends y11.1.places y11.2.1) (br (a1.kind==12) ((Ks a0 a1.server a1.other a1.n).bind λy12=>br (y12.2.1==0) (j28 y12.1.now y12.1.servers y12.1.sides y12.1.master.configs y12.1.master.activated y12.1.masterUp y12.1.lease.epoch y12.1.lease.holder y12.1.lease.ends y12.1.places 11) (j28 y12.1.now y12.1.servers y12.1.sides y12.1.master.configs y12.1.master.activated y12.1.masterUp y12.1.lease.epoch y12.1.lease.holder y12.1.lease.ends y12.1.places 0)) (br (a1.kind==13) ((Ju a0 a1.server).bind λy13=>j28 y13.1.now y13.1.servers y13.1.sides y13.1.master.configs y13.1.master.activated y13.1.masterUp y13.1.lease.epoch y13.1.lease.holder y13.1.lease.ends y13.1.places y13.2.1) (br (a1.kind==14) ((Ix a0 a1.server).bind λy14=>j28 y14.1.now y14.1.servers y14.1.sides y14.1.master.configs y14.1.master.activated y14.1.masterUp y14.1.lease.epoch y14.1.lease.holder y14.1.lease.ends y14.1.places y14.2.1) (br (a1.kind==15) ((FP a0 a1.server).bind λy15=>j28 y15.1.now y15.1.servers y15.1.sides y15.1.master.configs y15.1.master.activated y15.1.masterUp y15.1.lease.epoch y15.1.lease.holder y15.1.lease.ends y15.1.places y15.2.1) ((Kx a0 a1.other a1.n).bind λy16=>j28 y16.1.now y16.1.servers y16.1.sides y16.1.master.configs y16.1.master.activated y16.1.masterUp y16.1.lease.epoch y16.1.lease.holder y16.1.lease.ends y16.1.places y16.2.1)))))))))))))
def ZB[dE] :=Fg 273 Tryz.f273 acx OE (λx=>OP x.1 x.2.1) [RN,RM,F4,Ow,Re,Vd,Tq,Ya,Wq,Wu,Ui,Vc,Ts,RL,PA,Vg] [] (by kernel_rfl) λx=>by simp only[OP,tm];kernel_rfl
def NF(a0:qh)(a1:wT):Option (qh×wX×Unit):=
 (ED a0).bind λy1=>br (!y1.1) ((Fz a0).bind λy2=>some (y2.1,(⟨1,(⟨false,0⟩:Result),0⟩:wX),())) ((JP a1).bind λy3=>br (!y3.1) ((Fz a0).bind λy4=>some (y4.1,(⟨1,(⟨false,0⟩:Result),0⟩:wX),())) (br (a1.kind==1) ((NB a0 a1.server a1.op).bind λy5=>some (y5.1,y5.2.1,())) (br (a1.kind==2) ((Fz a0).bind λy6=>(MB a0 a1.server a1.n).bind λy7=>some (y6.1,y7.1,())) ((OP a0 a1).bind λy8=>some (y8.1,(⟨y8.2.1,(⟨false,0⟩:Result),0⟩:wX),())))))
def Yd[dE] :=Fg 256 Tryz.f256 acx acU (λx=>NF x.1 x.2.1) [ES,F4,Uh,X7,Xg,ZB] [] (by kernel_rfl) λx=>by simp only[NF,tm];kernel_rfl
abbrev Q7:LX:=⟨⟨[(1,.cl (.ro (.st .event))),Qh,PO,acH,PE],[K5,Vu],ac2,0,40⟩,[(.ext 0,⟨[Qh,PO,acH],[K5,Vu],ac2,0,40⟩)],[],[1,4,6,7,8],[4,6,7]⟩
def Mi(s: (List wT×Unit×Unit×Unit×Int×Unit)×(LL×LL×Unit)×List wX×List qk×List Int×List nG×List uQ×Unit):Q7.R:=
 br (decide (s.1.2.2.2.2.1<(s.1.1.length:Int))) (br (decide (s.1.2.2.2.2.1<60)) (iteP (0<=s.1.2.2.2.2.1) ((s.1.1[s.1.2.2.2.2.1.toNat]?).bind λx21=>(NF (⟨s.2.1.2.1.1,s.2.2.2.1,s.2.2.2.2.1,(⟨s.2.2.2.2.2.1,s.2.1.2.1.2.2.2.2.1⟩:jZ),s.2.1.2.1.2.2.2.2.2.1,(⟨s.2.1.2.1.2.2.2.2.2.2.1,s.2.1.2.1.2.2.2.2.2.2.2.1,s.2.1.2.1.2.2.2.2.2.2.2.2.1⟩:uN),s.2.2.2.2.2.2.1⟩:qh) x21).bind λy22=>iteP ((s.2.2.1++([y22.2.1]:List wX)).length*32<=2 ^ 40) (some (.inl ((s.1.1,(),(),(),(aeq .i64 (s.1.2.2.2.2.1+1)),()),(s.2.1.1,(y22.1.now,(),(),(),y22.1.master.activated,y22.1.masterUp,y22.1.lease.epoch,y22.1.lease.holder,y22.1.lease.ends,(),()),()),(s.2.2.1++([y22.2.1]:List wX)),y22.1.servers,y22.1.sides,y22.1.master.configs,y22.1.places,()))) none) none) (some (.inr (((),(),(),()),s.2)))) (some (.inr (((),(),(),()),s.2)))
def Vo:=ny Mi
def VH[dE] :=H5 Tryz.f226 [0] Q7 Mi [Yd] [] (by kernel_rfl) λs=>by simp only[Mi,tm];kernel_rfl
def MC(a0:qh)(a1:List wT):Option (qh×(List wX)×Unit):=
 (Fz a0).bind λy1=>(Vo ((a1,(),(),(),0,()),((0,(),(),(),0,0,0,0,0,(),()),(y1.1.now,(),(),(),y1.1.master.activated,y1.1.masterUp,y1.1.lease.epoch,y1.1.lease.holder,y1.1.lease.ends,(),()),()),([]:List wX),y1.1.servers,y1.1.sides,y1.1.master.configs,y1.1.places,())).bind λe23=>some ((⟨e23.2.1.2.1.1,e23.2.2.2.1,e23.2.2.2.2.1,(⟨e23.2.2.2.2.2.1,e23.2.1.2.1.2.2.2.2.1⟩:jZ),e23.2.1.2.1.2.2.2.2.2.1,(⟨e23.2.1.2.1.2.2.2.2.2.2.1,e23.2.1.2.1.2.2.2.2.2.2.2.1,e23.2.1.2.1.2.2.2.2.2.2.2.2.1⟩:uN),e23.2.2.2.2.2.2.1⟩:qh),e23.2.2.1,())
def Xh[dE] :=Fg 226 Tryz.f226 [.ty (.st .cluster),.ty (.ls (.st .event))] [.st .cluster,.ls (.st .reply)] (λx=>MC x.1 x.2.1) [F4] [VH] (by kernel_rfl) λx=>by simp only[MC,tm];kernel_rfl
def Lp[dE](a0:List qi):Option ((List qi)×qh×Unit):=
 (L4 a0).bind λy1=>iteP (y1.1.length=a0.length) ((Lk y1.2.1).bind λy2=>(MI y1.1 14).bind λy3=>iteP (y3.1.length=y1.1.length) ((MC y2.1 y3.2.1).bind λy4=>some (y3.1,y4.1,())) none) none
def Wy[dE] :=TK 146 Tryz.f146 (.st .cur) [] UC (λl _=>Lp l) [Up,Wr,Xo,Xh] [] (by kernel_rfl) λl x=>by simp only[Lp,tm,-eq_self];kernel_rfl
abbrev R1:LX:=⟨⟨[Ux,Y1,Of],[],abW,1,17⟩,[(.ext 0,⟨[Y1],[],abW,1,17⟩)],[],[0,3,4],[3]⟩
def K9[dE](s:ZF×Unit×List qi×List Int×Unit):R1.R:=
 br (decide (s.1.2.2.1<5)) ((EX s.2.2.1 ([0,0,0,1,2]:List Int)).bind λy4=>iteP (y4.1.length=s.2.2.1.length) (iteP ((s.2.2.2.1++([y4.2.1]:List Int)).length*8<=2 ^ 40) (some (.inl (((),(),(aeq .i64 (s.1.2.2.1+1)),()),(()),y4.1,(s.2.2.2.1++([y4.2.1]:List Int)),()))) none) none) (some (.inr (((),()),(()),s.2.2)))
def RT[dE] :=ny K9
def WN[dE] :=H5 Tryz.f230 [0] R1 K9 [GB] [] (by kernel_rfl) λs=>by simp only[K9,tm,-eq_self];kernel_rfl
def NG[dE](a0:List qi):Option ((List qi)×(List Int)×Unit):=
 (RT (((),(),0,()),(()),a0,([]:List Int),())).bind λe5=>some e5.2.2
def Ye[dE] :=TK 230 Tryz.f230 (.st .cur) [] K4 (λl _=>NG l) [] [WN] (by kernel_rfl) λl x=>by simp only[NG,tm];kernel_rfl
def PX[dE](a0:List qi):Option ((List qi)×(List Int)×Unit):=
 (NG a0).bind λy1=>iteP (y1.1.length=a0.length) ((EJ y1.1 12).bind λy2=>iteP (y2.1.length=y1.1.length) (br (y2.2.1==0) (iteP (0<=(1:Int)/\(1:Int)<=(y1.2.1.length:Int)/\(y1.2.1.length:Int)<=((y1.2.1.length:Nat):Int)) (iteP ((0+(1:Int).toNat)=0/\((y1.2.1.length:Int).toNat-(1:Int).toNat)<=y1.2.1.length) (some (y2.1,(y1.2.1.take ((y1.2.1.length:Int).toNat-(1:Int).toNat)),())) (iteP ((0+(1:Int).toNat)+((y1.2.1.length:Int).toNat-(1:Int).toNat)<=y1.2.1.length) (some (y2.1,((y1.2.1.drop (0+(1:Int).toNat)).take ((y1.2.1.length:Int).toNat-(1:Int).toNat)),())) none)) none) (br (y2.2.1==1) ((EX y2.1 ([(-1),3,4]:List Int)).bind λy3=>iteP (y3.1.length=y2.1.length) (iteP (0<=(1:Int)/\(1:Int)<(y1.2.1.length:Int)) ((y1.2.1[(1:Int).toNat]?).bind λ_=>some (y3.1,(y1.2.1.set ((1:Int).toNat) y3.2.1),())) none) none) (some (y2.1,y1.2.1,())))) none) none
def aap[dE] :=TK 147 Tryz.f147 (.st .cur) [] K4 (λl _=>PX l) [Ye,Gb,GB] [] (by kernel_rfl) λl x=>by simp only[PX,tm,-eq_self];kernel_rfl
abbrev UG:LX:=⟨⟨[Ux,Y1,Of],[],abW,1,17⟩,[(.ext 0,⟨[Y1],[],abW,1,17⟩)],[],[0,3,4],[3]⟩
def Pi[dE](s:ZF×Unit×List qi×List Int×Unit):UG.R:=
 br (decide (s.1.2.2.1<5)) ((Gs s.2.2.1 2).bind λy4=>iteP (y4.1.length=s.2.2.1.length) (br y4.2.1 (iteP ((s.2.2.2.1++([s.1.2.2.1]:List Int)).length*8<=2 ^ 40) (some (.inl (((),(),(aeq .i64 (s.1.2.2.1+1)),()),(()),y4.1,(s.2.2.2.1++([s.1.2.2.1]:List Int)),()))) none) (some (.inl (((),(),(aeq .i64 (s.1.2.2.1+1)),()),(()),y4.1,s.2.2.2)))) none) (some (.inr (((),()),(()),s.2.2)))
def Yo[dE] :=ny Pi
def YD[dE] :=H5 Tryz.f200 [0] UG Pi [Jw] [] (by kernel_rfl) λs=>by simp only[Pi,tm,-eq_self];kernel_rfl
def MH[dE](a0:List qi):Option ((List qi)×(List Int)×Unit):=
 (Yo (((),(),0,()),(()),a0,([]:List Int),())).bind λe6=>some e6.2.2
def Xn[dE] :=TK 200 Tryz.f200 (.st .cur) [] K4 (λl _=>MH l) [] [YD] (by kernel_rfl) λl x=>by simp only[MH,tm];kernel_rfl
def KQ[dE](a0:List qi)(a1:Int):Option ((List qi)×nG×Unit):=
 (EJ a0 5).bind λy1=>iteP (y1.1.length=a0.length) ((MH y1.1).bind λy2=>iteP (y2.1.length=y1.1.length) ((IM y2.2.1 y1.2.1).bind λy3=>let j9 (p4:List Int):Option ((List qi)×nG×Unit):=(Gs y2.1 2).bind λy5=>iteP (y5.1.length=y2.1.length) (br y5.2.1 ((MH y5.1).bind λy6=>iteP (y6.1.length=y5.1.length) ((F3 y6.2.1 p4).bind λy7=>br (decide ((y7.1.length:Int)>0)) (iteP (0<=(0:Int)/\(0:Int)<=(1:Int)/\(1:Int)<=((y7.1.length:Nat):Int)) (iteP ((0+(0:Int).toNat)=0/\((1:Int).toNat-(0:Int).toNat)<=y7.1.length) (some (y6.1,(⟨a1,y1.2.1,p4,(y7.1.take ((1:Int).toNat-(0:Int).toNat))⟩:nG),())) (iteP ((0+(0:Int).toNat)+((1:Int).toNat-(0:Int).toNat)<=y7.1.length) (some (y6.1,(⟨a1,y1.2.1,p4,((y7.1.drop (0+(0:Int).toNat)).take ((1:Int).toNat-(0:Int).toNat))⟩:nG),())) none)) none) (some (y6.1,(⟨a1,y1.2.1,p4,([]:List Int)⟩:nG),()))) none) (some (y5.1,(⟨a1,y1.2.1,p4,([]:List Int)⟩:nG),()))) none;br (decide ((y3.1.length:Int)>3)) (j9 ([y1.2.1]:List Int)) (j9 y3.1)) none) none
def Ri[dE] :=TK 105 Tryz.f105 (.st .cur) WG abP (λl x=>KQ l x.1) [Gb,Xn,Pq,Jw,L6] [] (by kernel_rfl) λl x=>by simp only[KQ,tm,-eq_self];kernel_rfl
abbrev UE:LX:=⟨⟨[Ux,Mc,SZ,Of],[ZH,acZ],[.st .cur,.st .config],1,34⟩,[(.ext 0,⟨[Mc,SZ],[ZH,acZ],[.st .cur,.st .config],1,34⟩)],[.b 1 0 (.st .config)],[0,2,3,4],[2,3]⟩
def Pg[dE](s:abN×(UB×UB×Unit)×List qi×List nG×Unit):UE.R:=
 br (decide (s.1.2.2.2.1>0)) ((KQ s.2.2.1 (aeq .i64 ((s.2.2.2.1.length:Int)+1))).bind λy17=>iteP (y17.1.length=s.2.2.1.length) ((GK (⟨s.2.2.2.1,s.2.1.2.1.2.1⟩:jZ) y17.2.1).bind λy18=>(Gs y17.1 2).bind λy19=>iteP (y19.1.length=y17.1.length) (br y19.2.1 ((FQ y18.1 (y18.1.configs.length:Int)).bind λy20=>some (.inl (((),(),(),(aeq .i64 (s.1.2.2.2.1-1)),()),(s.2.1.1,((),y20.1.activated,()),()),y19.1,y20.1.configs,()))) (some (.inl (((),(),(),(aeq .i64 (s.1.2.2.2.1-1)),()),(s.2.1.1,((),y18.1.activated,()),()),y19.1,y18.1.configs,())))) none) none) (some (.inr (((),(),()),s.2)))
def Ym[dE] :=ny Pg
def YB[dE] :=H5 Tryz.f231 [0] UE Pg [Ri,Pz,Jw,OU] [] (by kernel_rfl) λs=>by simp only[Pg,tm,-eq_self];kernel_rfl
def PS[dE](a0:List qi):Option ((List qi)×jZ×Unit):=
 (EJ a0 5).bind λy1=>iteP (y1.1.length=a0.length) ((Ym (((),(),(),y1.2.1,()),(((),0,()),((),0,()),()),y1.1,([]:List nG),())).bind λe23=>some (e23.2.2.1,(⟨e23.2.2.2.1,e23.2.1.2.1.2.1⟩:jZ),())) none
def aal[dE] :=TK 231 Tryz.f231 (.st .cur) [] abQ (λl _=>PS l) [Gb] [YB] (by kernel_rfl) λl x=>by simp only[PS,tm,-eq_self];kernel_rfl
def QG[dE](a0:List qi):Option ((List qi)×(List Int)×Unit):=
 (MH a0).bind λy1=>iteP (y1.1.length=a0.length) ((Gs y1.1 8).bind λy2=>iteP (y2.1.length=y1.1.length) (br y2.2.1 ((EX y2.1 ([(-1),0,4,5]:List Int)).bind λy3=>iteP (y3.1.length=y2.1.length) (iteP ((y1.2.1++([y3.2.1]:List Int)).length*8<=2 ^ 40) (some (y3.1,(y1.2.1++([y3.2.1]:List Int)),())) none) none) (some (y2.1,y1.2.1,()))) none) none
def abH[dE] :=TK 251 Tryz.f251 (.st .cur) [] K4 (λl _=>QG l) [Xn,Jw,GB] [] (by kernel_rfl) λl x=>by simp only[QG,tm,-eq_self];kernel_rfl
def QI[dE](a0:List qi):Option ((List qi)×nG×Unit):=
 (EJ a0 4).bind λy1=>iteP (y1.1.length=a0.length) ((KQ y1.1 (aeq .i64 (1+y1.2.1))).bind λy2=>iteP (y2.1.length=y1.1.length) ((EJ y2.1 14).bind λy3=>iteP (y3.1.length=y2.1.length) (br (y3.2.1==0) ((EX y3.1 ([0,20,21]:List Int)).bind λy4=>iteP (y4.1.length=y3.1.length) (some (y4.1,(⟨y4.2.1,y2.2.1.primary,y2.2.1.replicas,y2.2.1.witnesses⟩:nG),())) none) (br (y3.2.1==1) ((EJ y3.1 7).bind λy5=>iteP (y5.1.length=y3.1.length) (some (y5.1,(⟨y2.2.1.epoch,(aeq .i64 (y5.2.1-1)),y2.2.1.replicas,y2.2.1.witnesses⟩:nG),())) none) (br (y3.2.1==2) ((QG y3.1).bind λy6=>iteP (y6.1.length=y3.1.length) (some (y6.1,(⟨y2.2.1.epoch,y2.2.1.primary,y6.2.1,y2.2.1.witnesses⟩:nG),())) none) (br (y3.2.1==3) ((QG y3.1).bind λy7=>iteP (y7.1.length=y3.1.length) (some (y7.1,(⟨y2.2.1.epoch,y2.2.1.primary,y2.2.1.replicas,y7.2.1⟩:nG),())) none) (some (y3.1,y2.2.1,())))))) none) none) none
def YT[dE] :=TK 214 Tryz.f214 (.st .cur) [] abP (λl _=>QI l) [Gb,Ri,GB,abH] [] (by kernel_rfl) λl x=>by simp only[QI,tm,-eq_self];kernel_rfl
def PR[dE](a0:List qi):Option ((List qi)×jZ×Unit):=
 (PS a0).bind λy1=>iteP (y1.1.length=a0.length) ((EJ y1.1 14).bind λy2=>iteP (y2.1.length=y1.1.length) (br (y2.2.1==0) ((EX y2.1 ([(-1),0,3,6]:List Int)).bind λy3=>iteP (y3.1.length=y2.1.length) (some (y3.1,(⟨y1.2.1.configs,y3.2.1⟩:jZ),())) none) (br (y2.2.1==1) ((QI y2.1).bind λy4=>iteP (y4.1.length=y2.1.length) (iteP ((y1.2.1.configs++([y4.2.1]:List nG)).length*64<=2 ^ 40) (some (y4.1,(⟨(y1.2.1.configs++([y4.2.1]:List nG)),y1.2.1.activated⟩:jZ),())) none) none) (some (y2.1,y1.2.1,())))) none) none
def aak[dE] :=TK 148 Tryz.f148 (.st .cur) [] abQ (λl _=>PR l) [aal,Gb,GB,YT] [] (by kernel_rfl) λl x=>by simp only[PR,tm,-eq_self];kernel_rfl
def PT[dE](a0:List qi):Option ((List qi)×uN×Unit):=
 (Gs a0 4).bind λy1=>iteP (y1.1.length=a0.length) (let j17 (p5:List qi) (p6:Int) (p7:Int) (p8:Int):Option ((List qi)×uN×Unit):=(EJ p5 14).bind λy9=>iteP (y9.1.length=p5.length) (br (y9.2.1==0) ((EX y9.1 ([0,20,21]:List Int)).bind λy10=>iteP (y10.1.length=y9.1.length) (some (y10.1,(⟨y10.2.1,p7,p8⟩:uN),())) none) (br (y9.2.1==1) ((EX y9.1 ([(-1),4,5]:List Int)).bind λy11=>iteP (y11.1.length=y9.1.length) (some (y11.1,(⟨p6,y11.2.1,p8⟩:uN),())) none) (br (y9.2.1==2) ((EX y9.1 ([(-1),0,1049,1050]:List Int)).bind λy12=>iteP (y12.1.length=y9.1.length) (some (y12.1,(⟨p6,p7,y12.2.1⟩:uN),())) none) (some (y9.1,(⟨p6,p7,p8⟩:uN),()))))) none;br (!y1.2.1) ((EJ y1.1 3).bind λy2=>iteP (y2.1.length=y1.1.length) ((EJ y2.1 3).bind λy3=>iteP (y3.1.length=y2.1.length) ((EJ y3.1 20).bind λy4=>iteP (y4.1.length=y3.1.length) (j17 y4.1 (aeq .i64 (1+y2.2.1)) y3.2.1 (aeq .i64 (1+y4.2.1))) none) none) none) (j17 y1.1 0 0 0)) none
def aam[dE] :=TK 149 Tryz.f149 (.st .cur) [] [.st .lease] (λl _=>PT l) [Jw,Gb,GB] [] (by kernel_rfl) λl x=>by simp only[PT,tm,-eq_self];kernel_rfl
def RF[dE](a0:List qi):Option ((List qi)×(List uQ)×Unit):=
 (L4 a0).bind λy1=>iteP (y1.1.length=a0.length) ((EJ y1.1 14).bind λy2=>iteP (y2.1.length=y1.1.length) (br (y2.2.1==0) (iteP (0<=(1:Int)/\(1:Int)<=(y1.2.1.length:Int)/\(y1.2.1.length:Int)<=((y1.2.1.length:Nat):Int)) (iteP ((0+(1:Int).toNat)=0/\((y1.2.1.length:Int).toNat-(1:Int).toNat)<=y1.2.1.length) (some (y2.1,(y1.2.1.take ((y1.2.1.length:Int).toNat-(1:Int).toNat)),())) (iteP ((0+(1:Int).toNat)+((y1.2.1.length:Int).toNat-(1:Int).toNat)<=y1.2.1.length) (some (y2.1,((y1.2.1.drop (0+(1:Int).toNat)).take ((y1.2.1.length:Int).toNat-(1:Int).toNat)),())) none)) none) (br (y2.2.1==1) ((EX y2.1 ([(-1),9,10]:List Int)).bind λy3=>iteP (y3.1.length=y2.1.length) (iteP (0<=(0:Int)/\(0:Int)<(y1.2.1.length:Int)) ((y1.2.1[(0:Int).toNat]?).bind λx4=>some (y3.1,(y1.2.1.set ((0:Int).toNat) (⟨y3.2.1,x4.capacity,x4.load⟩:uQ)),())) none) none) (br (y2.2.1==2) ((EX y2.1 ([(-1),99,100]:List Int)).bind λy6=>iteP (y6.1.length=y2.1.length) (iteP (0<=(1:Int)/\(1:Int)<(y1.2.1.length:Int)) ((y1.2.1[(1:Int).toNat]?).bind λx7=>some (y6.1,(y1.2.1.set ((1:Int).toNat) (⟨x7.rack,x7.capacity,y6.2.1⟩:uQ)),())) none) none) (some (y2.1,y1.2.1,()))))) none) none
def abK[dE] :=TK 150 Tryz.f150 (.st .cur) [] [.ls (.st .place)] (λl _=>RF l) [Up,Gb,GB] [] (by kernel_rfl) λl x=>by simp only[RF,tm,-eq_self];kernel_rfl
abbrev V4:LX:=⟨⟨[Ux,Y2,Of,Nm],[],Zb,1,27⟩,[(.ext 0,⟨[Y2],[],Zb,1,27⟩)],[],[0,3,4,5],[3]⟩
def OJ[dE](s: (Unit×Unit×Int×Int×Unit)×Unit×List qi×List rp×Unit):V4.R:=
 br (decide (s.1.2.2.2.1>0)) ((Gs s.2.2.1 3).bind λy6=>iteP (y6.1.length=s.2.2.1.length) (br y6.2.1 ((Ou y6.1).bind λy9=>iteP (y9.1.length=y6.1.length) (iteP ((s.2.2.2.1++([(⟨(aeq .i64 (s.1.2.2.1+1)),y9.2.1⟩:rp)]:List rp)).length*56<=2 ^ 40) (some (.inl (((),(),(aeq .i64 (s.1.2.2.1+1)),(aeq .i64 (s.1.2.2.2.1-1)),()),(()),y9.1,(s.2.2.2.1++([(⟨(aeq .i64 (s.1.2.2.1+1)),y9.2.1⟩:rp)]:List rp)),()))) none) none) ((Ou y6.1).bind λy10=>iteP (y10.1.length=y6.1.length) (iteP ((s.2.2.2.1++([(⟨s.1.2.2.1,y10.2.1⟩:rp)]:List rp)).length*56<=2 ^ 40) (some (.inl (((),(),s.1.2.2.1,(aeq .i64 (s.1.2.2.2.1-1)),()),(()),y10.1,(s.2.2.2.1++([(⟨s.1.2.2.1,y10.2.1⟩:rp)]:List rp)),()))) none) none)) none) (some (.inr (((),()),(()),s.2.2)))
def VU[dE] :=ny OJ
def ZP[dE] :=H5 Tryz.f260 [0] V4 OJ [Jw,Wz] [] (by kernel_rfl) λs=>by simp only[OJ,tm,-eq_self];kernel_rfl
def QH[dE](a0:List qi):Option ((List qi)×(List rp)×Unit):=
 (EJ a0 7).bind λy1=>iteP (y1.1.length=a0.length) ((VU (((),(),1,y1.2.1,()),(()),y1.1,([]:List rp),())).bind λe14=>some e14.2.2) none
def YS[dE] :=TK 260 Tryz.f260 (.st .cur) [] Vt (λl _=>QH l) [Gb] [ZP] (by kernel_rfl) λl x=>by simp only[QH,tm,-eq_self];kernel_rfl
abbrev UF:LX:=⟨⟨[Qk,KG,Nm],[],[],0,25⟩,[(.ext 0,⟨[Qk,Nm],[],[],0,25⟩)],[],[0,1,5],[0,5]⟩
def Ph(s: (List rp×Int×Int×Unit)×Unit×Unit):UF.R:=
 br (decide (s.1.2.2.1<(s.1.1.length:Int))) (iteP (0<=s.1.2.2.1) ((s.1.1[s.1.2.2.1.toNat]?).bind λx4=>br (decide (x4.epoch<=s.1.2.1)) (some (.inl ((s.1.1,s.1.2.1,(aeq .i64 (s.1.2.2.1+1)),()),(()),(())))) (some (.inr ((s.1.1,s.1.2.2),(()),(()))))) none) (some (.inr ((s.1.1,s.1.2.2),(()),(()))))
def Yn:=ny Ph
def YC[dE] :=H5 Tryz.f259 [0] UF Ph [] [] (by kernel_rfl) λs=>by simp only[Ph,tm];kernel_rfl
def PV(a0:List rp)(a1:Int):Option ((List rp)×Unit):=
 (Yn ((a0,a1,0,()),(()),(()))).bind λe5=>iteP (0<=(0:Int)/\(0:Int)<=e5.1.2.1/\e5.1.2.1<=(e5.1.1.length:Int)) ((Gt ((e5.1.1.drop (0:Int).toNat).take (e5.1.2.1.toNat-(0:Int).toNat))).bind λy6=>some (y6.1,())) none
def aao[dE] :=Fg 259 Tryz.f259 aaA Vt (λx=>PV x.1 x.2.1) [KA] [YC] (by kernel_rfl) λx=>by simp only[PV,tm];kernel_rfl
def MF[dE](a0:List qi):Option ((List qi)×qk×Int×Unit):=
 (EJ a0 2).bind λy1=>iteP (y1.1.length=a0.length) ((K0 (aeq .i64 (1+y1.2.1))).bind λy2=>(EJ y1.1 3).bind λy3=>iteP (y3.1.length=y1.1.length) ((KQ y3.1 (aeq .i64 (1+y3.2.1))).bind λy4=>iteP (y4.1.length=y3.1.length) ((Fd y4.2.1).bind λy5=>(EJ y4.1 (y5.1.length:Int)).bind λy6=>iteP (y6.1.length=y4.1.length) (iteP (0<=y6.2.1/\y6.2.1<(y5.1.length:Int)) ((y5.1[y6.2.1.toNat]?).bind λx7=>(Gs y6.1 5).bind λy8=>iteP (y8.1.length=y6.1.length) (br (!y8.2.1) ((QH y8.1).bind λy9=>iteP (y9.1.length=y8.1.length) ((PV y9.2.1 y4.2.1.epoch).bind λy10=>(F1 y2.1 y4.2.1 x7 y10.1).bind λy11=>(Gs y9.1 4).bind λy44=>iteP (y44.1.length=y9.1.length) (let j62 (p45:Bool):Option ((List qi)×qk×Int×Unit):=(Gs y44.1 4).bind λy46=>iteP (y46.1.length=y44.1.length) (br y46.2.1 ((EJ y46.1 3).bind λy47=>iteP (y47.1.length=y46.1.length) ((Hq (⟨p45,y11.1.intact,y11.1.version,y11.1.epoch,y11.1.config,y11.1.first,y11.1.log,y11.1.commit,y11.1.learned⟩:qk) (aeq .i64 (4+y47.2.1))).bind λy48=>some (y47.1,y48.1,x7,())) none) (some (y46.1,(⟨p45,y11.1.intact,y11.1.version,y11.1.epoch,y11.1.config,y11.1.first,y11.1.log,y11.1.commit,y11.1.learned⟩:qk),x7,()))) none;br y44.2.1 (j62 false) (j62 y11.1.up)) none) none) ((Gs y8.1 4).bind λy63=>iteP (y63.1.length=y8.1.length) (let j81 (p64:Bool):Option ((List qi)×qk×Int×Unit):=(Gs y63.1 4).bind λy65=>iteP (y65.1.length=y63.1.length) (br y65.2.1 ((EJ y65.1 3).bind λy66=>iteP (y66.1.length=y65.1.length) ((Hq (⟨p64,y2.1.intact,y2.1.version,y2.1.epoch,y2.1.config,y2.1.first,y2.1.log,y2.1.commit,y2.1.learned⟩:qk) (aeq .i64 (4+y66.2.1))).bind λy67=>some (y66.1,y67.1,x7,())) none) (some (y65.1,(⟨p64,y2.1.intact,y2.1.version,y2.1.epoch,y2.1.config,y2.1.first,y2.1.log,y2.1.commit,y2.1.learned⟩:qk),x7,()))) none;br y63.2.1 (j81 false) (j81 y2.1.up)) none)) none) none) none) none) none) none
def Xl[dE] :=TK 232 Tryz.f232 (.st .cur) [] [.st .server,.i .i64] (λl _=>MF l) [Gb,SQ,Ri,Jb,Jw,YS,aao,Px,RP] [] (by kernel_rfl) λl x=>by simp only[MF,tm,-eq_self];kernel_rfl
def RD[dE](a0:List qi):Option ((List qi)×Op×Unit):=
 (Ou a0).bind λy1=>iteP (y1.1.length=a0.length) ((EJ y1.1 14).bind λy2=>iteP (y2.1.length=y1.1.length) (br (y2.2.1==0) ((EX y2.1 ([(-1),2,3]:List Int)).bind λy3=>iteP (y3.1.length=y2.1.length) (some (y3.1,(⟨y3.2.1,y1.2.1.seq,y1.2.1.kind,y1.2.1.object,y1.2.1.old,y1.2.1.value⟩:Op),())) none) (br (y2.2.1==1) ((EX y2.1 ([0,99,100]:List Int)).bind λy4=>iteP (y4.1.length=y2.1.length) (some (y4.1,(⟨y1.2.1.client,y4.2.1,y1.2.1.kind,y1.2.1.object,y1.2.1.old,y1.2.1.value⟩:Op),())) none) (br (y2.2.1==2) ((EJ y2.1 4).bind λy5=>iteP (y5.1.length=y2.1.length) (some (y5.1,(⟨y1.2.1.client,y1.2.1.seq,y5.2.1,y1.2.1.object,y1.2.1.old,y1.2.1.value⟩:Op),())) none) (br (y2.2.1==3) ((EX y2.1 ([(-1),3]:List Int)).bind λy6=>iteP (y6.1.length=y2.1.length) (some (y6.1,(⟨y1.2.1.client,y1.2.1.seq,y1.2.1.kind,y6.2.1,y1.2.1.old,y1.2.1.value⟩:Op),())) none) (br (y2.2.1==4) ((EX y2.1 ([(-1),9,10]:List Int)).bind λy7=>iteP (y7.1.length=y2.1.length) (some (y7.1,(⟨y1.2.1.client,y1.2.1.seq,y1.2.1.kind,y1.2.1.object,y1.2.1.old,y7.2.1⟩:Op),())) none) (br (y2.2.1==5) ((EX y2.1 ([(-1),0,9,10]:List Int)).bind λy8=>iteP (y8.1.length=y2.1.length) (some (y8.1,(⟨y1.2.1.client,y1.2.1.seq,y1.2.1.kind,y1.2.1.object,y8.2.1,y1.2.1.value⟩:Op),())) none) (some (y2.1,y1.2.1,())))))))) none) none
def abI[dE] :=TK 131 Tryz.f131 (.st .cur) [] [.st .op] (λl _=>RD l) [Wz,Gb,GB] [] (by kernel_rfl) λl x=>by simp only[RD,tm,-eq_self];kernel_rfl
abbrev V3:LX:=⟨⟨[Ux,Y2],[],Zb,1,33⟩,[(.ext 1,⟨[Y2],[],Zb,1,33⟩)],[],[0,3],[3]⟩
def Nt[dE](s:aaN×Unit×List qi×List rp×Unit):V3.R:=
 br (decide ((s.2.2.2.1.length:Int)<17)) ((Ou s.2.2.1).bind λy7=>iteP (y7.1.length=s.2.2.1.length) (iteP ((s.2.2.2.1++([(⟨20,y7.2.1⟩:rp)]:List rp)).length*56<=2 ^ 40) (some (.inl (((),(),()),(()),y7.1,(s.2.2.2.1++([(⟨20,y7.2.1⟩:rp)]:List rp)),()))) none) none) (some (.inr (((),()),(()),s.2.2)))
def VT[dE] :=ny Nt
def ZO[dE] :=H5 Tryz.f233 [0] V3 Nt [Wz] [] (by kernel_rfl) λs=>by simp only[Nt,tm,-eq_self];kernel_rfl
def RE[dE](a0:List qi):Option ((List qi)×(List rp)×Unit):=
 (QH a0).bind λy1=>iteP (y1.1.length=a0.length) ((EJ y1.1 14).bind λy2=>iteP (y2.1.length=y1.1.length) (br (y2.2.1==0) ((EX y2.1 ([0,1,20,21]:List Int)).bind λy3=>iteP (y3.1.length=y2.1.length) ((RD y3.1).bind λy4=>iteP (y4.1.length=y3.1.length) (iteP ((y1.2.1++([(⟨y3.2.1,y4.2.1⟩:rp)]:List rp)).length*56<=2 ^ 40) (some (y4.1,(y1.2.1++([(⟨y3.2.1,y4.2.1⟩:rp)]:List rp)),())) none) none) none) (br (y2.2.1==1) ((VT (((),(),()),(()),y2.1,y1.2.1,())).bind λe8=>some e8.2.2) (some (y2.1,y1.2.1,())))) none) none
def abJ[dE] :=TK 233 Tryz.f233 (.st .cur) [] Vt (λl _=>RE l) [YS,Gb,GB,abI] [ZO] (by kernel_rfl) λl x=>by simp only[RE,tm,-eq_self];kernel_rfl
def PU[dE](a0:List qi):Option ((List qi)×qk×Int×Unit):=
 (MF a0).bind λy1=>iteP (y1.1.length=a0.length) ((EJ y1.1 16).bind λy2=>iteP (y2.1.length=y1.1.length) (let j21 (p10:List qi) (p11:Int) (p12:Int) (p13:Int) (p14:Int) (p15:List Int) (p16:List Int) (p17:Int) (p18:List rp) (p19:Int) (p20:Int):Option ((List qi)×qk×Int×Unit):=some (p10,(⟨y1.2.1.up,y1.2.1.intact,p11,p12,(⟨p13,p14,p15,p16⟩:nG),p17,p18,p19,y1.2.1.learned⟩:qk),p20,());br (y2.2.1==0) ((EX y2.1 ([0,1,3]:List Int)).bind λy3=>iteP (y3.1.length=y2.1.length) (j21 y3.1 y3.2.1 y1.2.1.epoch y1.2.1.config.epoch y1.2.1.config.primary y1.2.1.config.replicas y1.2.1.config.witnesses y1.2.1.first y1.2.1.log y1.2.1.commit y1.2.2.1) none) (br (y2.2.1==1) ((EX y2.1 ([(-1),0,20,21]:List Int)).bind λy4=>iteP (y4.1.length=y2.1.length) (j21 y4.1 y1.2.1.version y4.2.1 y1.2.1.config.epoch y1.2.1.config.primary y1.2.1.config.replicas y1.2.1.config.witnesses y1.2.1.first y1.2.1.log y1.2.1.commit y1.2.2.1) none) (br (y2.2.1==2) ((QI y2.1).bind λy5=>iteP (y5.1.length=y2.1.length) (j21 y5.1 y1.2.1.version y1.2.1.epoch y5.2.1.epoch y5.2.1.primary y5.2.1.replicas y5.2.1.witnesses y1.2.1.first y1.2.1.log y1.2.1.commit y1.2.2.1) none) (br (y2.2.1==3) ((EX y2.1 ([(-1),0,2,17]:List Int)).bind λy6=>iteP (y6.1.length=y2.1.length) (j21 y6.1 y1.2.1.version y1.2.1.epoch y1.2.1.config.epoch y1.2.1.config.primary y1.2.1.config.replicas y1.2.1.config.witnesses y1.2.1.first y1.2.1.log y6.2.1 y1.2.2.1) none) (br (y2.2.1==4) ((EX y2.1 ([(-1),0,2,9223372036854775807]:List Int)).bind λy7=>iteP (y7.1.length=y2.1.length) (j21 y7.1 y1.2.1.version y1.2.1.epoch y1.2.1.config.epoch y1.2.1.config.primary y1.2.1.config.replicas y1.2.1.config.witnesses y7.2.1 y1.2.1.log y1.2.1.commit y1.2.2.1) none) (br (y2.2.1==5) ((EJ y2.1 7).bind λy8=>iteP (y8.1.length=y2.1.length) (j21 y8.1 y1.2.1.version y1.2.1.epoch y1.2.1.config.epoch y1.2.1.config.primary y1.2.1.config.replicas y1.2.1.config.witnesses y1.2.1.first y1.2.1.log y1.2.1.commit (aeq .i64 (y8.2.1-1))) none) (br (y2.2.1==6) ((RE y2.1).bind λy9=>iteP (y9.1.length=y2.1.length) (j21 y9.1 y1.2.1.version y1.2.1.epoch y1.2.1.config.epoch y1.2.1.config.primary y1.2.1.config.replicas y1.2.1.config.witnesses y1.2.1.first y9.2.1 y1.2.1.commit y1.2.2.1) none) (j21 y2.1 y1.2.1.version y1.2.1.epoch y1.2.1.config.epoch y1.2.1.config.primary y1.2.1.config.replicas y1.2.1.config.witnesses y1.2.1.first y1.2.1.log y1.2.1.commit y1.2.2.1)))))))) none) none
def aan[dE] :=TK 151 Tryz.f151 (.st .cur) [] [.st .server,.i .i64] (λl _=>PU l) [Xl,Gb,GB,YT,abJ] [] (by kernel_rfl) λl x=>by simp only[PU,tm,-eq_self];kernel_rfl
def PY[dE](a0:List qi):Option ((List qi)×qh×Unit):=
 (Lp a0).bind λy1=>iteP (y1.1.length=a0.length) ((EJ y1.1 20).bind λy2=>iteP (y2.1.length=y1.1.length) (br (y2.2.1==0) ((EX y2.1 ([(-1),998,999,1000]:List Int)).bind λy3=>iteP (y3.1.length=y2.1.length) (some (y3.1,(⟨y3.2.1,y1.2.1.servers,y1.2.1.sides,y1.2.1.master,y1.2.1.masterUp,y1.2.1.lease,y1.2.1.places⟩:qh),())) none) (br (y2.2.1==1) ((PX y2.1).bind λy4=>iteP (y4.1.length=y2.1.length) (some (y4.1,(⟨y1.2.1.now,y1.2.1.servers,y4.2.1,y1.2.1.master,y1.2.1.masterUp,y1.2.1.lease,y1.2.1.places⟩:qh),())) none) (br (y2.2.1==2) ((PR y2.1).bind λy5=>iteP (y5.1.length=y2.1.length) (some (y5.1,(⟨y1.2.1.now,y1.2.1.servers,y1.2.1.sides,y5.2.1,y1.2.1.masterUp,y1.2.1.lease,y1.2.1.places⟩:qh),())) none) (br (y2.2.1==3) ((EX y2.1 ([(-1),3,4]:List Int)).bind λy6=>iteP (y6.1.length=y2.1.length) (some (y6.1,(⟨y1.2.1.now,y1.2.1.servers,y1.2.1.sides,y1.2.1.master,y6.2.1,y1.2.1.lease,y1.2.1.places⟩:qh),())) none) (br (y2.2.1==4) ((PT y2.1).bind λy7=>iteP (y7.1.length=y2.1.length) (some (y7.1,(⟨y1.2.1.now,y1.2.1.servers,y1.2.1.sides,y1.2.1.master,y1.2.1.masterUp,y7.2.1,y1.2.1.places⟩:qh),())) none) (br (y2.2.1==5) ((RF y2.1).bind λy8=>iteP (y8.1.length=y2.1.length) (some (y8.1,(⟨y1.2.1.now,y1.2.1.servers,y1.2.1.sides,y1.2.1.master,y1.2.1.masterUp,y1.2.1.lease,y8.2.1⟩:qh),())) none) (br (y2.2.1==6) ((PU y2.1).bind λy9=>iteP (y9.1.length=y2.1.length) ((EJ y9.1 5).bind λy10=>iteP (y10.1.length=y9.1.length) (iteP (0<=y10.2.1/\y10.2.1<(y1.2.1.servers.length:Int)) ((y1.2.1.servers[y10.2.1.toNat]?).bind λ_=>some (y10.1,(⟨y1.2.1.now,(y1.2.1.servers.set y10.2.1.toNat y9.2.1),y1.2.1.sides,y1.2.1.master,y1.2.1.masterUp,y1.2.1.lease,y1.2.1.places⟩:qh),())) none) none) none) (some (y2.1,y1.2.1,()))))))))) none) none
def aaq[dE] :=TK 46 Tryz.f46 (.st .cur) [] UC (λl _=>PY l) [Wy,Gb,GB,aap,aak,aam,abK,aan] [] (by kernel_rfl) λl x=>by simp only[PY,tm,-eq_self];kernel_rfl
def QF[dE](a0:Hd):Option (qh×Int×Unit):=
 (Wa a0).bind λy1=>(PY y1.1).bind λy2=>iteP (y2.1.length=y1.1.length) ((EF y2.2.1.master).bind λy3=>br y3.2.1 ((Gs y2.1 4).bind λy4=>iteP (y4.1.length=y2.1.length) (br (!y4.2.1) ((EJ y4.1 (y3.1.replicas.length:Int)).bind λy5=>iteP (y5.1.length=y4.1.length) (iteP (0<=y5.2.1/\y5.2.1<(y3.1.replicas.length:Int)) ((y3.1.replicas[y5.2.1.toNat]?).bind λx6=>some (y2.2.1,x6,())) none) none) ((EJ y4.1 7).bind λy9=>iteP (y9.1.length=y4.1.length) (some (y2.2.1,(aeq .i64 (y9.2.1-1)),())) none)) none) ((EJ y2.1 7).bind λy10=>iteP (y10.1.length=y2.1.length) (some (y2.2.1,(aeq .i64 (y10.2.1-1)),())) none)) none
def ZA[dE] :=Fg 94 Tryz.f94 [.ty (.h)] OE (λx=>QF x.1) [abG,aaq,Gf,Jw,Gb] [] (by kernel_rfl) λx=>by simp only[QF,tm,-eq_self];kernel_rfl
def HH[dE](a0:Hd):Option (qh×Int×Unit):=
 (QF a0).bind λy1=>some (y1.1,y1.2.1,())
def QP[dE] :=Fg 21 Tryz.f21 [.ty (.h)] OE (λx=>HH x.1) [ZA] [] (by kernel_rfl) λx=>by simp only[HH,tm];kernel_rfl
def ET(a0:Int)(a1:Int)(a2:Int):Option (Bool×Unit):=
 br (decide (a1<=a0)) (some ((decide (a0<=a2)),())) (some (false,()))
def G0[dE] :=Fg 50 Tryz.f50 aax [.b] (λx=>ET x.1 x.2.1 x.2.2.1) [] [] (by kernel_rfl) λx=>by simp only[ET,tm];kernel_rfl
abbrev Ql:LX:=⟨⟨[OD,(5,.cl (.ro (.i .i64))),Om,PN],[],[],0,29⟩,[(.ret,⟨[O3],[],[],0,29⟩),(.ext 0,⟨[NY],[],[],0,29⟩)],[],[0,5,6,7],[2]⟩
def GU(s:acR×Unit×Unit):Ql.R:=
 br (decide (s.1.2.2.2.1<s.1.2.2.1)) (iteP (0<=s.1.2.2.2.1) ((s.1.2.1[s.1.2.2.2.1.toNat]?).bind λx5=>(ET x5 0 4).bind λy6=>br (!y6.1) (some (.inr (.inl ((false,()),(()),(()))))) (br (decide (s.1.2.2.2.1>0)) (iteP (0<=(aeq .i64 (s.1.2.2.2.1-1))) ((s.1.1[(aeq .i64 (s.1.2.2.2.1-1)).toNat]?).bind λx7=>br (decide (x5<=x7)) (some (.inr (.inl ((false,()),(()),(()))))) (some (.inl ((s.1.1,s.1.2.1,s.1.2.2.1,(aeq .i64 (s.1.2.2.2.1+1)),()),(()),(()))))) none) (some (.inl ((s.1.1,s.1.2.1,s.1.2.2.1,(aeq .i64 (s.1.2.2.2.1+1)),()),(()),(())))))) none) (some (.inr (.inr (((),()),(()),(())))))
def Lz:=ny GU
def UI[dE] :=H5 Tryz.f92 [0] Ql GU [G0] [] (by kernel_rfl) λs=>by simp only[GU,tm];kernel_rfl
def HJ(a0:List Int):Option (Bool×Unit):=
 (Lz ((a0,a0,(a0.length:Int),0,()),(()),(()))).bind λe8=>Sum.elim (λe8_0=>some e8_0.1) (λ_=>some (true,())) e8
def Wd[dE] :=Fg 92 Tryz.f92 Yp [.b] (λx=>HJ x.1) [] [UI] (by kernel_rfl) λx=>by simp only[HJ,tm];kernel_rfl
abbrev Qx:LX:=⟨⟨[OD,KG,PN,PE],[],[],0,19⟩,[(.ret,⟨[Of],[],[],0,19⟩),(.ext 0,⟨[Oo],[],[],0,19⟩)],[],[0,1,7,8],[4]⟩
def IW(s: (List Int×Int×Int×Int×Unit)×Unit×Unit):Qx.R:=
 br (decide (s.1.2.2.2.1<s.1.2.2.1)) (iteP (0<=s.1.2.2.2.1) ((s.1.1[s.1.2.2.2.1.toNat]?).bind λx5=>br (s.1.2.1==x5) (some (.inr (.inl (s.1.2.2.2,(()),(()))))) (some (.inl ((s.1.1,s.1.2.1,s.1.2.2.1,(aeq .i64 (s.1.2.2.2.1+1)),()),(()),(()))))) none) (some (.inr (.inr (((),()),(()),(())))))
def NX:=ny IW
def UW[dE] :=H5 Tryz.f240 [0] Qx IW [] [] (by kernel_rfl) λs=>by simp only[IW,tm];kernel_rfl
def Ng(a0:List Int)(a1:Int):Option (Int×Unit):=
 (NX ((a0,a1,(a0.length:Int),0,()),(()),(()))).bind λe6=>Sum.elim (λe6_0=>some e6_0.1) (λ_=>some ((-1),())) e6
def WA[dE] :=Fg 240 Tryz.f240 Xr JJ (λx=>Ng x.1 x.2.1) [] [UW] (by kernel_rfl) λx=>by simp only[Ng,tm];kernel_rfl
def KL(a0:List Int)(a1:Int):Option (Bool×Unit):=
 (Ng a0 a1).bind λy1=>some ((decide (y1.1≥0)),())
def Tv[dE] :=Fg 183 Tryz.f183 Xr [.b] (λx=>KL x.1 x.2.1) [WA] [] (by kernel_rfl) λx=>by simp only[KL,tm];kernel_rfl
def It(a0:List Int)(a1:Int):Option (Bool×Unit):=
 (KL a0 a1).bind λy1=>some (y1.1,())
def Oh[dE] :=Fg 81 Tryz.f81 Xr [.b] (λx=>It x.1 x.2.1) [Tv] [] (by kernel_rfl) λx=>by simp only[It,tm];kernel_rfl
def Jj(a0:List Int):Option ((List Int)×Unit):=iteP (a0.length*8<=2 ^ 40) (some (a0,())) none
def RQ[dE] :=coC 78 Tryz.f78 (.i .i64) 8 Jj (by kernel_rfl) (λ_=>rfl) λ_=>by kernel_rfl
def Rc(a0:Int):Option (Int×Unit):=
 br (decide (a0≥4294967296)) (none) (br (decide (a0≥65536)) (none) (br (decide (a0≥256)) (none) (iteP (0<=(aeq .u8 a0)) ((sb0[(aeq .u8 a0).toNat]?).bind λx1=>some ((aeq .i64 (0+(aeq .i64 (x1.toNat:Int)))),())) none)))
def X0[dE] :=Fg 284 Tryz.f284 [.ty (.i .u64)] JJ (λx=>Rc x.1) [] [] (by kernel_rfl) λx=>by simp only[Rc,tm];kernel_rfl
def PQ(a0:Int):Option (Int×Unit):=
 (Rc a0).bind λy1=>some (y1.1,())
def aai[dE] :=Fg 264 Tryz.f264 [.ty (.i .u64)] JJ (λx=>PQ x.1) [X0] [] (by kernel_rfl) λx=>by simp only[PQ,tm];kernel_rfl
def JC(a0:Int):Option (Bool×Unit):=
 some ((!(a0==a0)),())
def U2[dE] :=Fg 304 Tryz.f304 WG [.b] (λx=>JC x.1) [] [] (by kernel_rfl) λx=>by simp only[JC,tm];kernel_rfl
def Je(a0:Int)(a1:Int):Option (Bool×Unit):=
 (JC a0).bind λy1=>br y1.1 ((JC a1).bind λy2=>br (!y2.1) (some (true,())) (some ((decide (a0<a1)),()))) (some ((decide (a0<a1)),()))
def Wc[dE] :=Fg 280 Tryz.f280 acy [.b] (λx=>Je x.1 x.2.1) [U2] [] (by kernel_rfl) λx=>by simp only[Je,tm];kernel_rfl
abbrev Iz:LX:=⟨⟨[Qj,KG,QY,Om,PN],[],Jl,1,49⟩,[(.ext 2,⟨[Qj,KG,QY,Om],[],Jl,1,49⟩)],[],[0,1,2,6,7],[0,1,2,6]⟩
def Fe(s: (Unit×Int×Int×Int×Int×Unit)×Unit×List Int×Unit):Iz.R:=
 br (decide (s.1.2.2.2.2.1>s.1.2.1)) (iteP (0<=s.1.2.2.2.2.1/\s.1.2.2.2.2.1<(s.2.2.1.length:Int)) ((s.2.2.1[s.1.2.2.2.2.1.toNat]?).bind λx10=>iteP (0<=(aeq .i64 (s.1.2.2.2.2.1-1))/\(aeq .i64 (s.1.2.2.2.2.1-1))<(s.2.2.1.length:Int)) ((s.2.2.1[(aeq .i64 (s.1.2.2.2.2.1-1)).toNat]?).bind λx11=>(Je x10 x11).bind λy12=>br y12.1 (iteP (0<=(aeq .i64 (s.1.2.2.2.2.1-1))/\(aeq .i64 (s.1.2.2.2.2.1-1))<(s.2.2.1.length:Int)) ((s.2.2.1[(aeq .i64 (s.1.2.2.2.2.1-1)).toNat]?).bind λx13=>iteP (0<=s.1.2.2.2.2.1/\s.1.2.2.2.2.1<(s.2.2.1.length:Int)) ((s.2.2.1[s.1.2.2.2.2.1.toNat]?).bind λx14=>iteP (0<=s.1.2.2.2.2.1/\s.1.2.2.2.2.1<(s.2.2.1.length:Int)) (iteP (0<=(aeq .i64 (s.1.2.2.2.2.1-1))/\(aeq .i64 (s.1.2.2.2.2.1-1))<(s.2.2.1.length:Int)) ((s.2.2.1[s.1.2.2.2.2.1.toNat]?).bind λ_=>let z16:=s.2.2.1.set s.1.2.2.2.2.1.toNat x13;(z16[(aeq .i64 (s.1.2.2.2.2.1-1)).toNat]?).bind λ_=>some (.inl (((),s.1.2.1,s.1.2.2.1,s.1.2.2.2.1,(aeq .i64 (s.1.2.2.2.2.1-1)),()),(()),(z16.set ((aeq .i64 (s.1.2.2.2.2.1-1)).toNat) x14),()))) none) none) none) none) (some (.inr (((),s.1.2.1,s.1.2.2.1,s.1.2.2.2.1,()),(()),s.2.2)))) none) none) (some (.inr (((),s.1.2.1,s.1.2.2.1,s.1.2.2.2.1,()),(()),s.2.2)))
def Ga:=ny Fe
def LJ[dE] :=H5 Tryz.f274 [0,0] Iz Fe [Wc] [] (by kernel_rfl) λs=>by simp only[Fe,tm];kernel_rfl
abbrev Iy:LX:=⟨⟨[Qj,KG,QY,Om],[],Jl,1,49⟩,[(.ext 0,⟨[],[],Jl,1,49⟩)],[],[0,1,2,6],[]⟩
def EM(s: (Unit×Int×Int×Int×Unit)×Unit×List Int×Unit):Iy.R:=
 br (decide (s.1.2.2.2.1<s.1.2.2.1)) ((Ga (((),s.1.2.1,s.1.2.2.1,s.1.2.2.2.1,s.1.2.2.2),(()),s.2.2)).bind λe19=>some (.inl (((),e19.1.2.1,e19.1.2.2.1,(aeq .i64 (e19.1.2.2.2.1+1)),()),(()),e19.2.2))) (some (.inr ((()),(()),s.2.2)))
def F9:=ny EM
def LI[dE] :=H5 Tryz.f274 [0] Iy EM [] [LJ] (by kernel_rfl) λs=>by simp only[EM,tm];kernel_rfl
def Fj(a0:List Int)(a1:Int)(a2:Int):Option ((List Int)×Unit):=
 (F9 (((),a1,a2,(aeq .i64 (a1+1)),()),(()),a0,())).bind λe20=>some e20.2.2
def L7[dE] :=coI 274 Tryz.f274 (.i .i64) acy [] (λl x=>Fj l x.1 x.2.1) [] [LI] (by kernel_rfl) λl x=>by simp only[Fj,tm];kernel_rfl
abbrev J1:LX:=⟨⟨[Qj,KG,QY,OC,RV,QZ],[],Jl,1,134⟩,[(.ret,⟨[],[],Jl,1,134⟩)],[],[0,1,2,3,8,9],[]⟩
def Gd(s: (Unit×Int×Int×Int×Bool×Bool×Unit)×Unit×List Int×Unit):J1.R:=
 br (decide ((aeq .i64 (s.1.2.2.1-s.1.2.1))<=12)) ((Fj s.2.2.1 s.1.2.1 s.1.2.2.1).bind λy7=>iteP (y7.1.length=s.2.2.1.length) (some (.inr ((()),(()),y7.1,()))) none) (br (s.1.2.2.2.1==0) (none) (br (!s.1.2.2.2.2.1) (none) (none)))
def H6:=ny Gd
def Oc[dE] :=H5 Tryz.f263 [0] J1 Gd [L7] [] (by kernel_rfl) λs=>by simp only[Gd,tm,-eq_self];kernel_rfl
def FM(a0:List Int)(a1:Int)(a2:Int)(a3:Int):Option ((List Int)×Unit):=
 (H6 (((),a1,a2,a3,true,true,()),(()),a0,())).bind λe8=>some e8.2.2
def Ox[dE] :=coI 263 Tryz.f263 (.i .i64) aax [] (λl x=>FM l x.1 x.2.1 x.2.2.1) [] [Oc] (by kernel_rfl) λl x=>by simp only[FM,tm];kernel_rfl
def H4(a0:List Int):Option ((List Int)×Unit):=
 (PQ (aeq .u64 (a0.length:Int))).bind λy1=>(FM a0 0 (a0.length:Int) y1.1).bind λy2=>iteP (y2.1.length=a0.length) (some (y2.1,())) none
def Ut[dE] :=coI 241 Tryz.f241 (.i .i64) [] [] (λl _=>H4 l) [aai,Ox] [] (by kernel_rfl) λl x=>by simp only[H4,tm,-eq_self];kernel_rfl
abbrev M6:LX:=⟨⟨[Qj,OC,(4,.cl (.sub 0 (.i .i64))),Nm],[],Jl,0,61⟩,[(.ext 2,⟨[Qj,OC],[],Jl,0,61⟩)],[],[0,3,4,5],[0,3]⟩
def G1(s: (Unit×Int×(Nat×Nat)×Int×Unit)×Unit×List Int×Unit):M6.R:=
 br (decide (s.1.2.2.2.1<((s.1.2.2.1.2:Nat):Int))) (iteP (0<=s.1.2.2.2.1/\s.1.2.2.2.1<((s.1.2.2.1.2:Nat):Int)) ((s.2.2.1[(s.1.2.2.1.1+s.1.2.2.2.1.toNat)]?).bind λx9=>iteP (0<=(aeq .i64 (s.1.2.2.2.1-1))/\(aeq .i64 (s.1.2.2.2.1-1))<((s.1.2.2.1.2:Nat):Int)) ((s.2.2.1[(s.1.2.2.1.1+(aeq .i64 (s.1.2.2.2.1-1)).toNat)]?).bind λx10=>br (!(x9==x10)) (iteP (0<=s.1.2.2.2.1/\s.1.2.2.2.1<((s.1.2.2.1.2:Nat):Int)) ((s.2.2.1[(s.1.2.2.1.1+s.1.2.2.2.1.toNat)]?).bind λx11=>iteP (0<=s.1.2.1/\s.1.2.1<(s.2.2.1.length:Int)) ((s.2.2.1[s.1.2.1.toNat]?).bind λ_=>some (.inl (((),(aeq .i64 (s.1.2.1+1)),s.1.2.2.1,(aeq .i64 (s.1.2.2.2.1+1)),()),(()),(s.2.2.1.set s.1.2.1.toNat x11),()))) none) none) (some (.inl (((),s.1.2.1,s.1.2.2.1,(aeq .i64 (s.1.2.2.2.1+1)),()),(()),s.2.2)))) none) none) (some (.inr (((),s.1.2.1,()),(()),s.2.2)))
def M4:=ny G1
def QR[dE] :=H5 Tryz.f242 [0,0] M6 G1 [] [] (by kernel_rfl) λs=>by simp only[G1,tm];kernel_rfl
abbrev M5:LX:=⟨⟨[Qj,OC],[],Jl,0,61⟩,[(.ret,⟨[Qj,(2,.cl (.sub 0 (.i .i64)))],[],Jl,0,61⟩),(.ext 0,⟨[Qj,NY],[],Jl,0,61⟩)],[],[0,3],[0,2]⟩
def FC(s:UB×Unit×List Int×Unit):M5.R:=
 br (decide (s.1.2.1<(s.2.2.1.length:Int))) (iteP (0<=s.1.2.1/\s.1.2.1<(s.2.2.1.length:Int)) ((s.2.2.1[s.1.2.1.toNat]?).bind λx3=>iteP (0<=(aeq .i64 (s.1.2.1-1))/\(aeq .i64 (s.1.2.1-1))<(s.2.2.1.length:Int)) ((s.2.2.1[(aeq .i64 (s.1.2.1-1)).toNat]?).bind λx4=>br (x3==x4) (iteP (0<=s.1.2.1/\s.1.2.1<=(s.2.2.1.length:Int)/\(s.2.2.1.length:Int)<=((s.2.2.1.length:Nat):Int)) ((M4 (((),s.1.2.1,((0+s.1.2.1.toNat),((s.2.2.1.length:Int).toNat-s.1.2.1.toNat)),1,()),(()),s.2.2)).bind λe16=>iteP (0<=e16.1.2.1/\e16.1.2.1<=(e16.2.2.1.length:Int)/\(e16.2.2.1.length:Int)<=((e16.2.2.1.length:Nat):Int)) (iteP ((0+e16.1.2.1.toNat)+((e16.2.2.1.length:Int).toNat-e16.1.2.1.toNat)<=e16.2.2.1.length) (iteP (0<=(0:Int)/\(0:Int)<=e16.1.2.1/\e16.1.2.1<=((e16.2.2.1.length:Nat):Int)) (some (.inr (.inl (((),((0+(0:Int).toNat),(e16.1.2.1.toNat-(0:Int).toNat)),()),(()),(e16.2.2.1.take (0+e16.1.2.1.toNat)++List.replicate ((e16.2.2.1.length:Int).toNat-e16.1.2.1.toNat) (0:Int)++e16.2.2.1.drop ((0+e16.1.2.1.toNat)+((e16.2.2.1.length:Int).toNat-e16.1.2.1.toNat))),())))) none) none) none) none) (some (.inl (((),(aeq .i64 (s.1.2.1+1)),()),(()),s.2.2)))) none) none) (some (.inr (.inr (((),(),()),(()),s.2.2))))
def Kk:=ny FC
def QQ[dE] :=H5 Tryz.f242 [0] M5 FC [] [QR] (by kernel_rfl) λs=>by simp only[FC,tm];kernel_rfl
def GZ(a0:List Int):Option ((List Int)×Unit):=
 br (decide ((a0.length:Int)<2)) (some (a0,())) ((Kk (((),1,()),(()),a0,())).bind λe17=>Sum.elim (λe17_0=>iteP (e17_0.1.2.1.1=0/\e17_0.1.2.1.2<=e17_0.2.2.1.length) (some ((e17_0.2.2.1.take e17_0.1.2.1.2),())) (iteP (e17_0.1.2.1.1+e17_0.1.2.1.2<=e17_0.2.2.1.length) (some (((e17_0.2.2.1.drop e17_0.1.2.1.1).take e17_0.1.2.1.2),())) none)) (λe17_1=>some e17_1.2.2) e17)
def RR[dE] :=coM 242 Tryz.f242 (.i .i64) [] K4 (λl _=>GZ l) [] [QQ] (by kernel_rfl) λl x=>by simp only[GZ,tm,-eq_self];kernel_rfl
def Ja(a0:List Int):Option ((List Int)×Unit):=
 (Jj a0).bind λy1=>(H4 y1.1).bind λy2=>iteP (y2.1.length=y1.1.length) ((GZ y2.1).bind λy3=>some (y3.1,())) none
def SN[dE] :=Fg 186 Tryz.f186 Yp K4 (λx=>Ja x.1) [RQ,Ut,RR] [] (by kernel_rfl) λx=>by simp only[Ja,tm,-eq_self];kernel_rfl
def G2(a0:Int)(a1:List Int):Option (Bool×Unit):=
 (It a1 a0).bind λy1=>some (y1.1,())
def M3[dE] :=Fg 187 Tryz.f187 [.ty (.i .i64),.pr (.ls (.i .i64))] [.b] (λx=>G2 x.1 x.2.1) [Oh] [] (by kernel_rfl) λx=>by simp only[G2,tm];kernel_rfl
abbrev HB:LX:=⟨⟨[OD,(1,.fn 187 [.pro (.ls (.i .i64))]),PN,PE],[],[],0,19⟩,[(.ret,⟨[Of],[],[],0,19⟩),(.ext 0,⟨[Oo],[],[],0,19⟩)],[],[0,1,7,8],[4]⟩
def Fc(s: (List Int×(List Int×Unit)×Int×Int×Unit)×Unit×Unit):HB.R:=
 br (decide (s.1.2.2.2.1<s.1.2.2.1)) (iteP (0<=s.1.2.2.2.1) ((s.1.1[s.1.2.2.2.1.toNat]?).bind λx5=>(G2 x5 s.1.2.1.1).bind λy6=>br y6.1 (some (.inr (.inl (s.1.2.2.2,(()),(()))))) (some (.inl ((s.1.1,s.1.2.1,s.1.2.2.1,(aeq .i64 (s.1.2.2.2.1+1)),()),(()),(()))))) none) (some (.inr (.inr (((),()),(()),(())))))
def Gn:=ny Fc
def Ki[dE] :=H5 Tryz.f179 [0] HB Fc [M3] [] (by kernel_rfl) λs=>by simp only[Fc,tm];kernel_rfl
def FY(a0:List Int)(a1_0:List Int):Option (Int×Unit):=
 (Gn ((a0,(a1_0,()),(a0.length:Int),0,()),(()),(()))).bind λe7=>Sum.elim (λe7_0=>some e7_0.1) (λ_=>some ((-1),())) e7
def KE[dE] :=Fg 179 Tryz.f179 [.ty (.ls (.i .i64)),.fn 187 K4] JJ (λx=>FY x.1 x.2.1.1) [] [Ki] (by kernel_rfl) λx=>by simp only[FY,tm];kernel_rfl
abbrev G8:LX:=⟨⟨[Qj,(1,.fn 187 [.pro (.ls (.i .i64))]),Nm,Om],[],Jl,0,42⟩,[(.ext 0,⟨[Qj,Nm],[],Jl,0,42⟩)],[],[0,1,5,6],[0,5]⟩
def EW(s: (Unit×(List Int×Unit)×Int×Int×Unit)×Unit×List Int×Unit):G8.R:=
 br (decide (s.1.2.2.2.1<(s.2.2.1.length:Int))) (iteP (0<=s.1.2.2.2.1/\s.1.2.2.2.1<(s.2.2.1.length:Int)) ((s.2.2.1[s.1.2.2.2.1.toNat]?).bind λx6=>(G2 x6 s.1.2.1.1).bind λy7=>br (!y7.1) (iteP (0<=s.1.2.2.1/\s.1.2.2.1<(s.2.2.1.length:Int)) ((s.2.2.1[s.1.2.2.1.toNat]?).bind λ_=>some (.inl (((),s.1.2.1,(aeq .i64 (s.1.2.2.1+1)),(aeq .i64 (s.1.2.2.2.1+1)),()),(()),(s.2.2.1.set s.1.2.2.1.toNat x6),()))) none) (some (.inl (((),s.1.2.1,s.1.2.2.1,(aeq .i64 (s.1.2.2.2.1+1)),()),(()),s.2.2)))) none) (some (.inr (((),s.1.2.2.1,()),(()),s.2.2)))
def G7:=ny EW
def Jy[dE] :=H5 Tryz.f77 [0] G8 EW [M3] [] (by kernel_rfl) λs=>by simp only[EW,tm];kernel_rfl
def Fk(a0:List Int)(a1_0:List Int):Option ((List Int)×Unit):=
 (FY a0 a1_0).bind λy1=>br (y1.1==(-1)) (some (a0,())) ((G7 (((),(a1_0,()),y1.1,(aeq .i64 (y1.1+1)),()),(()),a0,())).bind λe12=>iteP (0<=e12.1.2.1/\e12.1.2.1<=(e12.2.2.1.length:Int)/\(e12.2.2.1.length:Int)<=((e12.2.2.1.length:Nat):Int)) (iteP ((0+e12.1.2.1.toNat)+((e12.2.2.1.length:Int).toNat-e12.1.2.1.toNat)<=e12.2.2.1.length) (iteP (0<=(0:Int)/\(0:Int)<=e12.1.2.1/\e12.1.2.1<=((e12.2.2.1.length:Nat):Int)) (iteP ((0+(0:Int).toNat)=0/\(e12.1.2.1.toNat-(0:Int).toNat)<=(e12.2.2.1.take (0+e12.1.2.1.toNat)++List.replicate ((e12.2.2.1.length:Int).toNat-e12.1.2.1.toNat) (0:Int)++e12.2.2.1.drop ((0+e12.1.2.1.toNat)+((e12.2.2.1.length:Int).toNat-e12.1.2.1.toNat))).length) (some (((e12.2.2.1.take (0+e12.1.2.1.toNat)++List.replicate ((e12.2.2.1.length:Int).toNat-e12.1.2.1.toNat) (0:Int)++e12.2.2.1.drop ((0+e12.1.2.1.toNat)+((e12.2.2.1.length:Int).toNat-e12.1.2.1.toNat))).take (e12.1.2.1.toNat-(0:Int).toNat)),())) (iteP ((0+(0:Int).toNat)+(e12.1.2.1.toNat-(0:Int).toNat)<=(e12.2.2.1.take (0+e12.1.2.1.toNat)++List.replicate ((e12.2.2.1.length:Int).toNat-e12.1.2.1.toNat) (0:Int)++e12.2.2.1.drop ((0+e12.1.2.1.toNat)+((e12.2.2.1.length:Int).toNat-e12.1.2.1.toNat))).length) (some ((((e12.2.2.1.take (0+e12.1.2.1.toNat)++List.replicate ((e12.2.2.1.length:Int).toNat-e12.1.2.1.toNat) (0:Int)++e12.2.2.1.drop ((0+e12.1.2.1.toNat)+((e12.2.2.1.length:Int).toNat-e12.1.2.1.toNat))).drop (0+(0:Int).toNat)).take (e12.1.2.1.toNat-(0:Int).toNat)),())) none)) none) none) none)
def JI[dE] :=coM 77 Tryz.f77 (.i .i64) [.fn 187 K4] K4 (λl x=>Fk l x.1.1) [KE] [Jy] (by kernel_rfl) λl x=>by simp only[Fk,tm,-eq_self];kernel_rfl
def HZ(a0:List Int)(a1:List Int):Option ((List Int)×Unit):=
 (Ja a0).bind λy1=>(Fk y1.1 a1).bind λy2=>some (y2.1,())
def Sc[dE] :=Fg 83 Tryz.f83 Vq K4 (λx=>HZ x.1 x.2.1) [SN,JI] [] (by kernel_rfl) λx=>by simp only[HZ,tm];kernel_rfl
def Jo(a0:List Int)(a1:List Int):Option ((List Int)×Unit):=
 (HZ a0 a1).bind λy1=>(HZ a0 y1.1).bind λy2=>some (y2.1,())
def Ti[dE] :=Fg 93 Tryz.f93 Vq K4 (λx=>Jo x.1 x.2.1) [Sc] [] (by kernel_rfl) λx=>by simp only[Jo,tm];kernel_rfl
def G4(a0:nG):Option (Bool×Unit):=
 (ET a0.epoch 1 20).bind λy1=>br y1.1 ((HJ a0.replicas).bind λy2=>br y2.1 ((HJ a0.witnesses).bind λy3=>br y3.1 ((It a0.replicas a0.primary).bind λy4=>br y4.1 ((Jo a0.replicas a0.witnesses).bind λy5=>some (((y5.1.length:Int)==0),())) (some (false,()))) (some (false,()))) (some (false,()))) (some (false,()))
def KM[dE] :=Fg 20 Tryz.f20 Yq [.b] (λx=>G4 x.1) [G0,Wd,Oh,Ti] [] (by kernel_rfl) λx=>by simp only[G4,tm];kernel_rfl
abbrev PF:LX:=⟨⟨[LD,(6,.cl (.ro (.st .config))),PN,PE],[Yt],[],0,30⟩,[(.ret,⟨[LD,O3],[Yt],[],0,30⟩),(.ext 0,⟨[LD,NY],[Yt],[],0,30⟩)],[],[1,6,7,8],[1,2]⟩
def Ia(s: (Unit×List nG×Int×Int×Unit)×(ado×Unit)×Unit):PF.R:=
 br (decide (s.1.2.2.2.1<s.1.2.2.1)) (iteP (0<=s.1.2.2.2.1) ((s.1.2.1[s.1.2.2.2.1.toNat]?).bind λx6=>(G4 x6).bind λy7=>br (!y7.1) (some (.inr (.inl (((),false,()),s.2.1,(()))))) (br (!(x6.epoch==(aeq .i64 (s.1.2.2.2.1+1)))) (some (.inr (.inl (((),false,()),s.2.1,(()))))) (some (.inl (((),s.1.2.1,s.1.2.2.1,(aeq .i64 (s.1.2.2.2.1+1)),()),s.2.1,(())))))) none) (some (.inr (.inr (((),(),()),s.2.1,(())))))
def MT:=ny Ia
def Tz[dE] :=H5 Tryz.f154 [0] PF Ia [KM] [] (by kernel_rfl) λs=>by simp only[Ia,tm];kernel_rfl
def HM(a0:jZ):Option (Bool×Unit):=
 (MT (((),a0.configs,(a0.configs.length:Int),0,()),((a0.configs,a0.activated,()),()),(()))).bind λe8=>Sum.elim (λe8_0=>some e8_0.1.2) (λe8_1=>(ET e8_1.2.1.1.2.1 0 (e8_1.2.1.1.1.length:Int)).bind λy9=>some (y9.1,())) e8
def Mq[dE] :=Fg 154 Tryz.f154 Xu [.b] (λx=>HM x.1) [G0] [Tz] (by kernel_rfl) λx=>by simp only[HM,tm];kernel_rfl
def Gh(a0:nG):Option (nG×Unit):=
 iteP ((([]:List Int)++a0.replicas).length*8<=2 ^ 40) (iteP ((([]:List Int)++a0.witnesses).length*8<=2 ^ 40) (some ((⟨a0.epoch,a0.primary,(([]:List Int)++a0.replicas),(([]:List Int)++a0.witnesses)⟩:nG),())) none) none
def Lr[dE] :=Fg 208 Tryz.f208 Yq abP (λx=>Gh x.1) [] [] (by kernel_rfl) λx=>by simp only[Gh,tm];kernel_rfl
def Jf(a0:jZ)(a1:Int):Option (nG×Bool×Unit):=
 (HM a0).bind λy1=>br (!y1.1) (some ((⟨0,0,([]:List Int),([]:List Int)⟩:nG),false,())) ((ET a1 1 (a0.configs.length:Int)).bind λy2=>br (!y2.1) (some ((⟨0,0,([]:List Int),([]:List Int)⟩:nG),false,())) (iteP (0<=(aeq .i64 (a1-1))) ((a0.configs[(aeq .i64 (a1-1)).toNat]?).bind λx3=>(Gh x3).bind λy4=>some (y4.1,true,())) none))
def Rd[dE] :=Fg 159 Tryz.f159 YW Yr (λx=>Jf x.1 x.2.1) [Mq,G0,Lr] [] (by kernel_rfl) λx=>by simp only[Jf,tm];kernel_rfl
def E0(a0:jZ):Option (nG×Bool×Unit):=
 (Jf a0 a0.activated).bind λy1=>some (y1.1,y1.2.1,())
def HF[dE] :=Fg 66 Tryz.f66 Xu Yr (λx=>E0 x.1) [Rd] [] (by kernel_rfl) λx=>by simp only[E0,tm];kernel_rfl
def Mm(a0:Int):Option (Bool×Unit):=
 (ET a0 0 3).bind λy1=>some ((!y1.1),())
def U5[dE] :=Fg 234 Tryz.f234 WG [.b] (λx=>Mm x.1) [G0] [] (by kernel_rfl) λx=>by simp only[Mm,tm];kernel_rfl
abbrev IK:LX:=⟨⟨[OD,(1,.cl (.fc 234)),PN,PE],[],[],0,19⟩,[(.ret,⟨[Of],[],[],0,19⟩),(.ext 0,⟨[Oo],[],[],0,19⟩)],[],[0,1,7,8],[4]⟩
def Fv(s: (List Int×Unit×Int×Int×Unit)×Unit×Unit):IK.R:=
 br (decide (s.1.2.2.2.1<s.1.2.2.1)) (iteP (0<=s.1.2.2.2.1) ((s.1.1[s.1.2.2.2.1.toNat]?).bind λx4=>(Mm x4).bind λy5=>br y5.1 (some (.inr (.inl (s.1.2.2.2,(()),(()))))) (some (.inl ((s.1.1,(),s.1.2.2.1,(aeq .i64 (s.1.2.2.2.1+1)),()),(()),(()))))) none) (some (.inr (.inr (((),()),(()),(())))))
def Hb:=ny Fv
def LO[dE] :=H5 Tryz.f179 [0] IK Fv [U5] [] (by kernel_rfl) λs=>by simp only[Fv,tm];kernel_rfl
def GA(a0:List Int):Option (Int×Unit):=
 (Hb ((a0,(),(a0.length:Int),0,()),(()),(()))).bind λe6=>Sum.elim (λe6_0=>some e6_0.1) (λ_=>some ((-1),())) e6
def MP[dE] :=Fg 179 Tryz.f179 acz JJ (λx=>GA x.1) [] [LO] (by kernel_rfl) λx=>by simp only[GA,tm];kernel_rfl
def F7(a0:List Int):Option (Bool×Unit):=
 (GA a0).bind λy1=>some ((decide (y1.1≥0)),())
def Lx[dE] :=Fg 68 Tryz.f68 acz [.b] (λx=>F7 x.1) [MP] [] (by kernel_rfl) λx=>by simp only[F7,tm];kernel_rfl
def KO(a0:List Int):Option (Bool×Unit):=
 br ((a0.length:Int)==5) ((F7 a0).bind λy1=>some ((!y1.1),())) (some (false,()))
def TX[dE] :=Fg 153 Tryz.f153 Yp [.b] (λx=>KO x.1) [Lx] [] (by kernel_rfl) λx=>by simp only[KO,tm];kernel_rfl
def Hx(a0:uN):Option (Bool×Unit):=
 br ((a0.epoch==0)&&((a0.holder==0)&&((a0.ends==0)&&true))) (some (true,())) ((ET a0.epoch 1 20).bind λy1=>br y1.1 ((ET a0.holder 0 4).bind λy2=>br y2.1 ((ET a0.ends 1 1049).bind λy3=>some (y3.1,())) (some (false,()))) (some (false,())))
def Sb[dE] :=Fg 155 Tryz.f155 YV [.b] (λx=>Hx x.1) [G0] [] (by kernel_rfl) λx=>by simp only[Hx,tm];kernel_rfl
def La(a0:uQ):Option (Bool×Unit):=
 (ET a0.rack 0 9).bind λy1=>br (!y1.1) (some (true,())) ((ET a0.capacity 0 9).bind λy2=>br (!y2.1) (some (true,())) ((ET a0.load 0 99).bind λy3=>some ((!y3.1),())))
def TW[dE] :=Fg 236 Tryz.f236 [.ty (.st .place)] [.b] (λx=>La x.1) [G0] [] (by kernel_rfl) λx=>by simp only[La,tm];kernel_rfl
abbrev H7:LX:=⟨⟨[SY,(1,.cl (.fc 236)),PN,PE],[],[],0,19⟩,[(.ret,⟨[Of],[],[],0,19⟩),(.ext 0,⟨[Oo],[],[],0,19⟩)],[],[0,1,7,8],[4]⟩
def Fi(s: (List uQ×Unit×Int×Int×Unit)×Unit×Unit):H7.R:=
 br (decide (s.1.2.2.2.1<s.1.2.2.1)) (iteP (0<=s.1.2.2.2.1) ((s.1.1[s.1.2.2.2.1.toNat]?).bind λx4=>(La x4).bind λy5=>br y5.1 (some (.inr (.inl (s.1.2.2.2,(()),(()))))) (some (.inl ((s.1.1,(),s.1.2.2.1,(aeq .i64 (s.1.2.2.2.1+1)),()),(()),(()))))) none) (some (.inr (.inr (((),()),(()),(())))))
def GO:=ny Fi
def KV[dE] :=H5 Tryz.f261 [0] H7 Fi [TW] [] (by kernel_rfl) λs=>by simp only[Fi,tm];kernel_rfl
def F8(a0:List uQ):Option (Int×Unit):=
 (GO ((a0,(),(a0.length:Int),0,()),(()),(()))).bind λe6=>Sum.elim (λe6_0=>some e6_0.1) (λ_=>some ((-1),())) e6
def Ly[dE] :=Fg 261 Tryz.f261 acA JJ (λx=>F8 x.1) [] [KV] (by kernel_rfl) λx=>by simp only[F8,tm];kernel_rfl
def FV(a0:List uQ):Option (Bool×Unit):=
 (F8 a0).bind λy1=>some ((decide (y1.1≥0)),())
def KB[dE] :=Fg 235 Tryz.f235 acA [.b] (λx=>FV x.1) [Ly] [] (by kernel_rfl) λx=>by simp only[FV,tm];kernel_rfl
def KY(a0:List uQ):Option (Bool×Unit):=
 br ((a0.length:Int)==5) ((FV a0).bind λy1=>some ((!y1.1),())) (some (false,()))
def W8[dE] :=Fg 156 Tryz.f156 aay [.b] (λx=>KY x.1) [KB] [] (by kernel_rfl) λx=>by simp only[KY,tm];kernel_rfl
def KZ(a0:Op):Option (Bool×Unit):=
 (ET a0.client 0 2).bind λy1=>br (!y1.1) (some (false,())) ((ET a0.seq 1 99).bind λy2=>br (!y2.1) (some (false,())) ((ET a0.object 0 2).bind λy3=>br (!y3.1) (some (false,())) ((ET a0.value 0 9).bind λy4=>br (!y4.1) (some (false,())) (br (a0.kind==1) (br (a0.old==0) (some (true,())) (br (a0.kind==2) ((ET a0.old 0 9).bind λy5=>some (y5.1,())) (some (false,())))) (br (a0.kind==2) ((ET a0.old 0 9).bind λy6=>some (y6.1,())) (some (false,())))))))
def Xa[dE] :=Fg 133 Tryz.f133 Xt [.b] (λx=>KZ x.1) [G0] [] (by kernel_rfl) λx=>by simp only[KZ,tm];kernel_rfl
abbrev VZ:LX:=⟨⟨[Qk,(5,.cl (.ro (.st .entry))),Om,PN],[],[],0,41⟩,[(.ret,⟨[Qk,O3],[],[],0,41⟩),(.ext 0,⟨[Qk,NY],[],[],0,41⟩)],[],[0,5,6,7],[0,2]⟩
def Ns(s:acS×Unit×Unit):VZ.R:=
 br (decide (s.1.2.2.2.1<s.1.2.2.1)) (iteP (0<=s.1.2.2.2.1) ((s.1.2.1[s.1.2.2.2.1.toNat]?).bind λx5=>(ET x5.epoch 1 20).bind λy6=>br (!y6.1) (some (.inr (.inl ((s.1.1,false,()),(()),(()))))) (br (decide (s.1.2.2.2.1>0)) (iteP (0<=(aeq .i64 (s.1.2.2.2.1-1))) ((s.1.1[(aeq .i64 (s.1.2.2.2.1-1)).toNat]?).bind λx7=>br (decide (x5.epoch<x7.epoch)) (some (.inr (.inl ((s.1.1,false,()),(()),(()))))) ((KZ x5.op).bind λy8=>br (!y8.1) (some (.inr (.inl ((s.1.1,false,()),(()),(()))))) (some (.inl ((s.1.1,s.1.2.1,s.1.2.2.1,(aeq .i64 (s.1.2.2.2.1+1)),()),(()),(())))))) none) ((KZ x5.op).bind λy9=>br (!y9.1) (some (.inr (.inl ((s.1.1,false,()),(()),(()))))) (some (.inl ((s.1.1,s.1.2.1,s.1.2.2.1,(aeq .i64 (s.1.2.2.2.1+1)),()),(()),(()))))))) none) (some (.inr (.inr ((s.1.1,(),()),(()),(())))))
def So:=ny Ns
def ZL[dE] :=H5 Tryz.f207 [0] VZ Ns [G0,Xa] [] (by kernel_rfl) λs=>by simp only[Ns,tm];kernel_rfl
def Jg(a0:List rp):Option (Bool×Unit):=
 (So ((a0,a0,(a0.length:Int),0,()),(()),(()))).bind λe10=>Sum.elim (λe10_0=>some e10_0.1.2) (λe10_1=>some ((decide ((e10_1.1.1.length:Int)<=16)),())) e10
def RI[dE] :=Fg 207 Tryz.f207 RU [.b] (λx=>Jg x.1) [] [ZL] (by kernel_rfl) λx=>by simp only[Jg,tm];kernel_rfl
abbrev Qw:LX:=⟨⟨[OD,QX,Qi,aaG],[],[],0,26⟩,[(.ret,⟨[S4],[],[],0,26⟩),(.ext 0,⟨[Oo],[],[],0,26⟩)],[],[0,1,12,13],[4]⟩
def H0(s:acR×Unit×Unit):Qw.R:=
 br (decide (s.1.2.2.2.1<s.1.2.2.1)) (iteP (0<=s.1.2.2.2.1) ((s.1.1[s.1.2.2.2.1.toNat]?).bind λx5=>iteP (0<=s.1.2.2.2.1) ((s.1.2.1[s.1.2.2.2.1.toNat]?).bind λx6=>br (!(x5==x6)) (some (.inr (.inl ((false,()),(()),(()))))) (some (.inl ((s.1.1,s.1.2.1,s.1.2.2.1,(aeq .i64 (s.1.2.2.2.1+1)),()),(()),(()))))) none) none) (some (.inr (.inr (((),()),(()),(())))))
def NW:=ny H0
def UV[dE] :=H5 Tryz.f63 [0] Qw H0 [] [] (by kernel_rfl) λs=>by simp only[H0,tm];kernel_rfl
def Jk(a0:List Int)(a1:List Int):Option (Bool×Unit):=
 br (!((a0.length:Int)==(a1.length:Int))) (some (false,())) ((NW ((a0,a1,(a0.length:Int),0,()),(()),(()))).bind λe7=>Sum.elim (λe7_0=>some e7_0.1) (λ_=>some (true,())) e7)
def RS[dE] :=Fg 63 Tryz.f63 Vq [.b] (λx=>Jk x.1 x.2.1) [] [UV] (by kernel_rfl) λx=>by simp only[Jk,tm];kernel_rfl
def IZ(a0:List Int)(a1:List Int):Option (Bool×Unit):=
 (Jk a0 a1).bind λy1=>some (y1.1,())
def TZ[dE] :=Fg 91 Tryz.f91 Vq [.b] (λx=>IZ x.1 x.2.1) [RS] [] (by kernel_rfl) λx=>by simp only[IZ,tm];kernel_rfl
def GF(a0:nG)(a1:nG):Option (Bool×Unit):=
 br (a0.epoch==a1.epoch) (br (a0.primary==a1.primary) ((IZ a0.replicas a1.replicas).bind λy1=>br y1.1 ((IZ a0.witnesses a1.witnesses).bind λy2=>some (y2.1,())) (some (false,()))) (some (false,()))) (some (false,()))
def JU[dE] :=Fg 19 Tryz.f19 acj [.b] (λx=>GF x.1 x.2.1) [TZ] [] (by kernel_rfl) λx=>by simp only[GF,tm];kernel_rfl
def JO(a0:List rp):Option (Int×Unit):=
 br ((a0.length:Int)==0) (some (0,())) (iteP (0<=(aeq .i64 ((a0.length:Int)-1))) ((a0[(aeq .i64 ((a0.length:Int)-1)).toNat]?).bind λx1=>some (x1.epoch,())) none)
def P5[dE] :=Fg 158 Tryz.f158 RU JJ (λx=>JO x.1) [] [] (by kernel_rfl) λx=>by simp only[JO,tm];kernel_rfl
def I0(a0:nG)(a1:Int):Option (Int×Unit):=
 (G4 a0).bind λy1=>br (!y1.1) (some (0,())) (br (a1==a0.primary) (some (1,())) ((It a0.replicas a1).bind λy2=>br y2.1 (some (2,())) ((It a0.witnesses a1).bind λy3=>br y3.1 (some (3,())) (some (0,())))))
def P3[dE] :=Fg 97 Tryz.f97 acl JJ (λx=>I0 x.1 x.2.1) [KM,Oh] [] (by kernel_rfl) λx=>by simp only[I0,tm];kernel_rfl
def Nz(a0:Int)(a1:List rp):Option (Bool×Unit):=
 (Jg a1).bind λy1=>br y1.1 (br (decide ((a1.length:Int)<=3)) ((ET a0 0 (aeq .i64 (16-(a1.length:Int)))).bind λy2=>br y2.1 (br (a0==0) (some (true,())) (some (((a1.length:Int)==3),()))) (some (false,()))) (some (false,()))) (some (false,()))
def Xd[dE] :=Fg 237 Tryz.f237 acs [.b] (λx=>Nz x.1 x.2.1) [RI,G0] [] (by kernel_rfl) λx=>by simp only[Nz,tm];kernel_rfl
def Ih(a0:qk)(a1:Int):Option (Bool×Unit):=
 (ET a0.version 1 2).bind λy1=>br (!y1.1) (some (false,())) ((ET a0.epoch 0 20).bind λy2=>br (!y2.1) (some (false,())) ((Jg a0.log).bind λy3=>br (!y3.1) (some (false,())) ((Jg a0.learned).bind λy4=>br (!y4.1) (some (false,())) ((ET a0.first 0 16).bind λy5=>br (!y5.1) (some (false,())) (br (decide ((aeq .i64 (a0.first+(a0.log.length:Int)))>16)) (some (false,())) ((ET a0.commit 0 (aeq .i64 (a0.first+(a0.log.length:Int)))).bind λy6=>br (!y6.1) (some (false,())) ((GF a0.config (⟨0,0,([]:List Int),([]:List Int)⟩:nG)).bind λy7=>br y7.1 (br (a0.first==0) (br (a0.commit==0) (some (((a0.log.length:Int)==0),())) (some (false,()))) (some (false,()))) (br (!a0.intact) (some (false,())) (br (decide (a0.epoch<a0.config.epoch)) (some (false,())) ((JO a0.log).bind λy8=>br (decide (y8.1>a0.config.epoch)) (some (false,())) ((I0 a0.config a1).bind λy9=>br (y9.1==1) (some ((a0.first==0),())) (br (y9.1==2) (some ((a0.first==0),())) (br (y9.1==3) ((Nz a0.first a0.log).bind λy12=>some (y12.1,())) (some (false,())))))))))))))))
def Pv[dE] :=Fg 157 Tryz.f157 Vr [.b] (λx=>Ih x.1 x.2.1) [G0,RI,JU,P5,P3,Xd] [] (by kernel_rfl) λx=>by simp only[Ih,tm];kernel_rfl
abbrev N1:LX:=⟨⟨[LD,(57,.cl (.ro (.st .server))),(58,.cl (.int .i64)),(59,.cl (.int .i64))],[JZ],[],0,118⟩,[(.ret,⟨[O3],[],[],0,118⟩),(.ext 0,⟨[NY],[],[],0,118⟩)],[],[1,57,58,59],[2]⟩
def Hf(s: (Unit×List qk×Int×Int×Unit)×(Nn×Unit)×Unit):N1.R:=
 br (decide (s.1.2.2.2.1<s.1.2.2.1)) (iteP (0<=s.1.2.2.2.1) ((s.1.2.1[s.1.2.2.2.1.toNat]?).bind λx20=>(Ih x20 s.1.2.2.2.1).bind λy21=>br (!y21.1) (some (.inr (.inl ((false,()),(()),(()))))) (br (decide (x20.epoch>(s.2.1.1.2.2.2.1.length:Int))) (some (.inr (.inl ((false,()),(()),(()))))) ((JO x20.learned).bind λy22=>br (decide (y22.1>s.2.1.1.2.2.2.2.1)) (some (.inr (.inl ((false,()),(()),(()))))) ((GF x20.config (⟨0,0,([]:List Int),([]:List Int)⟩:nG)).bind λy23=>br y23.1 (some (.inl (((),s.1.2.1,s.1.2.2.1,(aeq .i64 (s.1.2.2.2.1+1)),()),s.2.1,(())))) ((Jf (⟨s.2.1.1.2.2.2.1,s.2.1.1.2.2.2.2.1⟩:jZ) x20.config.epoch).bind λy24=>br (!y24.2.1) (some (.inr (.inl ((false,()),(()),(()))))) ((GF y24.1 x20.config).bind λy25=>br (!y25.1) (some (.inr (.inl ((false,()),(()),(()))))) (br (decide (x20.config.epoch>s.2.1.1.2.2.2.2.1)) (some (.inr (.inl ((false,()),(()),(()))))) (some (.inl (((),s.1.2.1,s.1.2.2.1,(aeq .i64 (s.1.2.2.2.1+1)),()),s.2.1,(()))))))))))) none) (some (.inr (.inr (((),()),(()),(())))))
def KR:=ny Hf
def Rn[dE] :=H5 Tryz.f49 [0] N1 Hf [Pv,P5,JU,Rd] [] (by kernel_rfl) λs=>by simp only[Hf,tm];kernel_rfl
def Gg(a0:qh):Option (Bool×Unit):=
 (ET a0.now 0 999).bind λy1=>br (!y1.1) (some (false,())) (br (!((a0.servers.length:Int)==5)) (some (false,())) ((KO a0.sides).bind λy2=>br (!y2.1) (some (false,())) ((HM a0.master).bind λy3=>br (!y3.1) (some (false,())) ((Hx a0.lease).bind λy4=>br (!y4.1) (some (false,())) ((KY a0.places).bind λy5=>br (!y5.1) (some (false,())) ((ET a0.masterUp 0 3).bind λy6=>br (!y6.1) (some (false,())) (br (decide (a0.lease.epoch>a0.master.activated)) (some (false,())) ((KR (((),a0.servers,(a0.servers.length:Int),0,()),((a0.now,a0.servers,a0.sides,a0.master.configs,a0.master.activated,a0.masterUp,a0.lease.epoch,a0.lease.holder,a0.lease.ends,a0.places,()),()),(()))).bind λe26=>Sum.elim (λe26_0=>some e26_0.1) (λ_=>some (true,())) e26))))))))
def I7[dE] :=Fg 49 Tryz.f49 Ss [.b] (λx=>Gg x.1) [G0,TX,Mq,Sb,W8] [Rn] (by kernel_rfl) λx=>by simp only[Gg,tm];kernel_rfl
def HN(a0:qh):Option (Bool×Unit):=
 some ((decide ((aeq .i64 (2*a0.masterUp))>3)),())
def Ov[dE] :=Fg 98 Tryz.f98 Ss [.b] (λx=>HN x.1) [] [] (by kernel_rfl) λx=>by simp only[HN,tm];kernel_rfl
def Fp(a0:qh)(a1:Int):Option (Bool×Unit):=
 (Gg a0).bind λy1=>br y1.1 ((ET a1 0 4).bind λy2=>some (y2.1,())) (some (false,()))
def Mr[dE] :=Fg 132 Tryz.f132 Kl [.b] (λx=>Fp x.1 x.2.1) [I7,G0] [] (by kernel_rfl) λx=>by simp only[Fp,tm];kernel_rfl
def JK(a0:qk)(a1:Int):Option (Bool×Unit):=
 (Ih a0 a1).bind λy1=>br y1.1 (br a0.up ((I0 a0.config a1).bind λy2=>br (y2.1==1) (some ((a0.epoch==a0.config.epoch),())) (some (false,()))) (some (false,()))) (some (false,()))
def T0[dE] :=Fg 178 Tryz.f178 Vr [.b] (λx=>JK x.1 x.2.1) [Pv,P3] [] (by kernel_rfl) λx=>by simp only[JK,tm];kernel_rfl
def FU(a0:qh)(a1:Int):Option (Bool×Unit):=
 (Fp a0 a1).bind λy1=>br y1.1 (iteP (0<=a1) ((a0.servers[a1.toNat]?).bind λx2=>(JK x2 a1).bind λy3=>some (y3.1,())) none) (some (false,()))
def Ms[dE] :=Fg 67 Tryz.f67 Kl [.b] (λx=>FU x.1 x.2.1) [Mr,T0] [] (by kernel_rfl) λx=>by simp only[FU,tm];kernel_rfl
def JT(a1:Int):Option ((List Int)×Unit):=
 br (decide (a1<0)) (none) (br (decide ((aeq .i64 (a1-(aeq .i64 (0-0))))>0)) (iteP ((0:Int)=0/\(0:Int)=0) (iteP (0<(aeq .i64 (a1-(aeq .i64 (0-0))))/\(aeq .i64 (a1-(aeq .i64 (0-0))))*((8:Nat):Int)<=2 ^ 40) (iteP (0<=(0:Int)/\(0:Int)<=(0:Int)/\(0:Int)<=(((aeq .i64 (a1-(aeq .i64 (0-0)))).toNat:Nat):Int)) (iteP ((0+(0:Int).toNat)=0/\((0:Int).toNat-(0:Int).toNat)<=(List.replicate (aeq .i64 (a1-(aeq .i64 (0-0)))).toNat (0:Int)).length) (some (((List.replicate (aeq .i64 (a1-(aeq .i64 (0-0)))).toNat (0:Int)).take ((0:Int).toNat-(0:Int).toNat)),())) (iteP ((0+(0:Int).toNat)+((0:Int).toNat-(0:Int).toNat)<=(List.replicate (aeq .i64 (a1-(aeq .i64 (0-0)))).toNat (0:Int)).length) (some ((((List.replicate (aeq .i64 (a1-(aeq .i64 (0-0)))).toNat (0:Int)).drop (0+(0:Int).toNat)).take ((0:Int).toNat-(0:Int).toNat)),())) none)) none) none) none) (some (([]:List Int),())))
def Us[dE] :=Fg 262 Tryz.f262 [.nl,.ty (.i .i64)] K4 (λx=>JT x.2.1) [] [] (by kernel_rfl) λx=>by simp only[JT,tm,-eq_self];kernel_rfl
abbrev PK:LX:=⟨⟨[(0,.cl (.ro (.ls (.i .i64)))),OC,(9,.cl (.ro (.ls (.i .i64)))),Uz,Uy],[],[],0,36⟩,[(.ext 0,⟨[(0,.cl (.ro (.ls (.i .i64)))),OC],[],[],0,36⟩)],[],[0,3,9,10,11],[0,3]⟩
def Ie(s: (List (List Int)×Int×List (List Int)×Int×Int×Unit)×Unit×Unit):PK.R:=
 br (decide (s.1.2.2.2.2.1<s.1.2.2.2.1)) (iteP (0<=s.1.2.2.2.2.1) ((s.1.2.2.1[s.1.2.2.2.2.1.toNat]?).bind λx6=>br (decide ((aeq .i64 (s.1.2.1+(x6.length:Int)))<0)) (none) (some (.inl ((s.1.1,(aeq .i64 (s.1.2.1+(x6.length:Int))),s.1.2.2.1,s.1.2.2.2.1,(aeq .i64 (s.1.2.2.2.2.1+1)),()),(()),(()))))) none) (some (.inr ((s.1.1,s.1.2.1,()),(()),(()))))
def PD:=ny Ie
def TJ[dE] :=H5 Tryz.f239 [0] PK Ie [] [] (by kernel_rfl) λs=>by simp only[Ie,tm];kernel_rfl
abbrev Pb:LX:=⟨⟨[YY,(25,.cl (.ro (.ls (.i .i64)))),(26,.cl (.int .i64)),(27,.cl (.int .i64))],[],Jl,0,36⟩,[(.ext 2,⟨[YY],[],Jl,0,36⟩)],[],[6,25,26,27],[6]⟩
def HW(s: (Unit×List (List Int)×Int×Int×Unit)×Unit×List Int×Unit):Pb.R:=
 br (decide (s.1.2.2.2.1<s.1.2.2.1)) (iteP (0<=s.1.2.2.2.1) ((s.1.2.1[s.1.2.2.2.1.toNat]?).bind λx13=>iteP ((s.2.2.1++x13).length*8<=2 ^ 40) (some (.inl (((),s.1.2.1,s.1.2.2.1,(aeq .i64 (s.1.2.2.2.1+1)),()),(()),(s.2.2.1++x13),()))) none) none) (some (.inr (((),()),(()),s.2.2)))
def O2:=ny HW
def SE[dE] :=H5 Tryz.f239 [1] Pb HW [] [] (by kernel_rfl) λs=>by simp only[HW,tm];kernel_rfl
def Kz(a0:List (List Int)):Option ((List Int)×Unit):=
 (PD ((a0,0,a0,(a0.length:Int),0,()),(()),(()))).bind λe7=>(JT e7.1.2.1).bind λy8=>(O2 (((),e7.1.1,(e7.1.1.length:Int),0,()),(()),y8.1,())).bind λe14=>some e14.2.2
def Vj[dE] :=Fg 239 Tryz.f239 [.ty (.ls (.ls (.i .i64)))] K4 (λx=>Kz x.1) [Us] [TJ,SE] (by kernel_rfl) λx=>by simp only[Kz,tm];kernel_rfl
def JN(a0:List Int)(a1:List Int):Option ((List Int)×Unit):=
 (Kz ([a0,a1]:List (List Int))).bind λy1=>(Ja y1.1).bind λy2=>some (y2.1,())
def Uc[dE] :=Fg 180 Tryz.f180 Vq K4 (λx=>JN x.1 x.2.1) [Vj,SN] [] (by kernel_rfl) λx=>by simp only[JN,tm];kernel_rfl
def Iu(a0:nG):Option ((List Int)×Unit):=
 (G4 a0).bind λy1=>br (!y1.1) (some (([]:List Int),())) ((JN a0.replicas a0.witnesses).bind λy2=>some (y2.1,()))
def MJ[dE] :=Fg 69 Tryz.f69 Yq K4 (λx=>Iu x.1) [KM,Uc] [] (by kernel_rfl) λx=>by simp only[Iu,tm];kernel_rfl
def IE(a0:List Int)(a1:Int)(a2:Int):Option (Bool×Unit):=
 (KO a0).bind λy1=>br y1.1 ((ET a1 0 4).bind λy2=>br y2.1 ((ET a2 0 4).bind λy3=>br y3.1 (iteP (0<=a1) ((a0[a1.toNat]?).bind λx4=>iteP (0<=a2) ((a0[a2.toNat]?).bind λx5=>some ((x4==x5),())) none) none) (some (false,()))) (some (false,()))) (some (false,()))
def Pn[dE] :=Fg 181 Tryz.f181 aaz [.b] (λx=>IE x.1 x.2.1 x.2.2.1) [TX,G0] [] (by kernel_rfl) λx=>by simp only[IE,tm];kernel_rfl
def QC(a0:qh)(a1:Int)(a2:Int):Option (Bool×Unit):=
 iteP (0<=a1) ((a0.servers[a1.toNat]?).bind λx1=>iteP (0<=a2) ((a0.servers[a2.toNat]?).bind λx2=>(IE a0.sides a1 a2).bind λy3=>br y3.1 (br x2.up (br (x2.epoch==x1.epoch) ((GF x2.config x1.config).bind λy4=>br y4.1 (some ((decide (x2.commit<=(x1.log.length:Int))),())) (some (false,()))) (some (false,()))) (some (false,()))) (some (false,()))) none) none
def YR[dE] :=Fg 71 Tryz.f71 Su [.b] (λx=>QC x.1 x.2.1 x.2.2.1) [Pn,JU] [] (by kernel_rfl) λx=>by simp only[QC,tm];kernel_rfl
def IL(a0:Int)(a1:qh)(a2:nG):Option (Bool×Unit):=
 (QC a1 a2.primary a0).bind λy1=>some ((!y1.1),())
def QO[dE] :=Fg 70 Tryz.f70 [.ty (.i .i64),.pr (.st .cluster),.pr (.st .config)] [.b] (λx=>IL x.1 x.2.1 x.2.2.1) [YR] [] (by kernel_rfl) λx=>by simp only[IL,tm];kernel_rfl
abbrev HA:LX:=⟨⟨[OD,(1,.fn 70 [.pro (.st .cluster),.pro (.st .config)]),PN,PE],[],[],0,19⟩,[(.ret,⟨[Of],[],[],0,19⟩),(.ext 0,⟨[Oo],[],[],0,19⟩)],[],[0,1,7,8],[4]⟩
def Fb(s: (List Int×(qh×nG×Unit)×Int×Int×Unit)×Unit×Unit):HA.R:=
 br (decide (s.1.2.2.2.1<s.1.2.2.1)) (iteP (0<=s.1.2.2.2.1) ((s.1.1[s.1.2.2.2.1.toNat]?).bind λx6=>(IL x6 s.1.2.1.1 s.1.2.1.2.1).bind λy7=>br y7.1 (some (.inr (.inl (s.1.2.2.2,(()),(()))))) (some (.inl ((s.1.1,s.1.2.1,s.1.2.2.1,(aeq .i64 (s.1.2.2.2.1+1)),()),(()),(()))))) none) (some (.inr (.inr (((),()),(()),(())))))
def Gm:=ny Fb
def Kh[dE] :=H5 Tryz.f179 [0] HA Fb [QO] [] (by kernel_rfl) λs=>by simp only[Fb,tm];kernel_rfl
def FX(a0:List Int)(a1_0:qh)(a1_1:nG):Option (Int×Unit):=
 (Gm ((a0,(a1_0,a1_1,()),(a0.length:Int),0,()),(()),(()))).bind λe8=>Sum.elim (λe8_0=>some e8_0.1) (λ_=>some ((-1),())) e8
def KD[dE] :=Fg 179 Tryz.f179 [.ty (.ls (.i .i64)),.fn 70 acV] JJ (λx=>FX x.1 x.2.1.1 x.2.1.2.1) [] [Kh] (by kernel_rfl) λx=>by simp only[FX,tm];kernel_rfl
def FK(a0:List Int)(a1_0:qh)(a1_1:nG):Option (Bool×Unit):=
 (FX a0 a1_0 a1_1).bind λy1=>some ((decide (y1.1≥0)),())
def JX[dE] :=Fg 68 Tryz.f68 [.ty (.ls (.i .i64)),.fn 70 acV] [.b] (λx=>FK x.1 x.2.1.1 x.2.1.2.1) [KD] [] (by kernel_rfl) λx=>by simp only[FK,tm];kernel_rfl
def HY(a0:qh):Option (Int×Unit):=
 (E0 a0.master).bind λy1=>br (!y1.2.1) (some ((-1),())) ((FU a0 y1.1.primary).bind λy2=>br (!y2.1) (some ((-1),())) (iteP (0<=y1.1.primary) ((a0.servers[y1.1.primary.toNat]?).bind λx3=>br (!(x3.config.epoch==y1.1.epoch)) (some ((-1),())) ((Iu y1.1).bind λy4=>(FK y4.1 a0 y1.1).bind λy5=>br y5.1 (some ((-1),())) (some (y1.1.primary,())))) none))
def OT[dE] :=Fg 14 Tryz.f14 Ss JJ (λx=>HY x.1) [HF,Ms,MJ,JX] [] (by kernel_rfl) λx=>by simp only[HY,tm];kernel_rfl
def My(a0:qh):Option (Bool×Unit):=
 (HY a0).bind λy1=>some ((!(y1.1==(-1))),())
def W9[dE] :=Fg 12 Tryz.f12 Ss [.b] (λx=>My x.1) [OT] [] (by kernel_rfl) λx=>by simp only[My,tm];kernel_rfl
def JL(a0:qh)(a1:Int):Option (Int×Unit):=
 (E0 a0.master).bind λy1=>(Gg a0).bind λy2=>br (!y2.1) (some (1,())) (br (!y1.2.1) (some (1,())) ((I0 y1.1 a1).bind λy3=>br (!(y3.1==2)) (some (1,())) (br (decide ((a0.master.configs.length:Int)>y1.1.epoch)) (some (1,())) (br (y1.1.epoch==20) (some (1,())) ((HN a0).bind λy4=>br (!y4.1) (some (8,())) ((My a0).bind λy5=>br (!y5.1) (some (10,())) (iteP (0<=y1.1.primary) ((a0.sides[y1.1.primary.toNat]?).bind λx6=>br (!(x6==0)) (some (10,())) (br (!((a0.lease.epoch==0)&&((a0.lease.holder==0)&&((a0.lease.ends==0)&&true)))) (br (!(a0.lease.holder==y1.1.primary)) (some (7,())) (some (0,()))) (some (0,())))) none)))))))
def P2[dE] :=Fg 24 Tryz.f24 Kl JJ (λx=>JL x.1 x.2.1) [HF,I7,P3,Ov,W9] [] (by kernel_rfl) λx=>by simp only[JL,tm];kernel_rfl
def FS(a0:List rp):Option ((List rp)×Unit):=iteP (a0.length*56<=2 ^ 40) (some (a0,())) none
def I8[dE] :=coC 203 Tryz.f203 (.st .entry) 56 FS (by kernel_rfl) (λ_=>rfl) λ_=>by kernel_rfl
def Gi(a0:qk):Option (qk×Unit):=
 (Gh a0.config).bind λy1=>(FS a0.log).bind λy2=>(FS a0.learned).bind λy3=>some ((⟨a0.up,a0.intact,a0.version,a0.epoch,y1.1,a0.first,y2.1,a0.commit,y3.1⟩:qk),())
def Ni[dE] :=Fg 160 Tryz.f160 VV abO (λx=>Gi x.1) [Lr,I8] [] (by kernel_rfl) λx=>by simp only[Gi,tm];kernel_rfl
abbrev Qp:LX:=⟨⟨[Mc,SZ,(10,.cl (.ro (.st .config))),Uy,Qi],[ZH,Y7],abR,0,25⟩,[(.ext 0,⟨[Mc,SZ],[ZH,Y7],abR,0,25⟩)],[.b 2 0 (.st .config)],[2,3,10,11,12],[2,3]⟩
def IU(s: (Unit×Unit×List nG×Int×Int×Unit)×(UB×UB×Unit)×List nG×Unit):Qp.R:=
 br (decide (s.1.2.2.2.2.1<s.1.2.2.2.1)) (iteP (0<=s.1.2.2.2.2.1) ((s.1.2.2.1[s.1.2.2.2.2.1.toNat]?).bind λx14=>(Gh x14).bind λy15=>iteP ((s.2.2.1++([y15.1]:List nG)).length*64<=2 ^ 40) (some (.inl (((),(),s.1.2.2.1,s.1.2.2.2.1,(aeq .i64 (s.1.2.2.2.2.1+1)),()),s.2.1,(s.2.2.1++([y15.1]:List nG)),()))) none) none) (some (.inr (((),(),()),s.2)))
def Qd:=ny IU
def UM[dE] :=H5 Tryz.f161 [0] Qp IU [Lr] [] (by kernel_rfl) λs=>by simp only[IU,tm];kernel_rfl
def Jh(a0:jZ):Option (jZ×Unit):=
 (Qd (((),(),a0.configs,(a0.configs.length:Int),0,()),(((),0,()),((),a0.activated,()),()),([]:List nG),())).bind λe16=>some ((⟨e16.2.2.1,e16.2.1.2.1.2.1⟩:jZ),())
def Po[dE] :=Fg 161 Tryz.f161 Xu abQ (λx=>Jh x.1) [] [UM] (by kernel_rfl) λx=>by simp only[Jh,tm];kernel_rfl
def Lq(a0:List uQ):Option ((List uQ)×Unit):=iteP (a0.length*24<=2 ^ 40) (some (a0,())) none
def Uq[dE] :=coC 162 Tryz.f162 (.st .place) 24 Lq (by kernel_rfl) (λ_=>rfl) λ_=>by kernel_rfl
abbrev PG:LX:=⟨⟨[LD,O4,Xv,(9,.cl (.ro (.st .server))),Uz,Uy],[JZ,K5,Y8],abT,0,36⟩,[(.ext 0,⟨[LD,O4,Xv],[JZ,K5,Y8],abT,0,36⟩)],[.b 2 1 (.st .server)],[1,2,3,9,10,11],[1,2,3]⟩
def Ic(s: (Unit×Unit×Unit×List qk×Int×Int×Unit)×(Nn×LL×acI×Unit)×List qk×Unit):PG.R:=
 br (decide (s.1.2.2.2.2.2.1<s.1.2.2.2.2.1)) (iteP (0<=s.1.2.2.2.2.2.1) ((s.1.2.2.2.1[s.1.2.2.2.2.2.1.toNat]?).bind λx60=>(Gi x60).bind λy61=>iteP ((s.2.2.1++([y61.1]:List qk)).length*152<=2 ^ 40) (some (.inl (((),(),(),s.1.2.2.2.1,s.1.2.2.2.2.1,(aeq .i64 (s.1.2.2.2.2.2.1+1)),()),s.2.1,(s.2.2.1++([y61.1]:List qk)),()))) none) none) (some (.inr (((),(),(),()),s.2)))
def PC:=ny Ic
def TC[dE] :=H5 Tryz.f51 [0] PG Ic [Ni] [] (by kernel_rfl) λs=>by simp only[Ic,tm];kernel_rfl
def FD(a0:qh):Option (qh×Unit):=
 (PC (((),(),(),a0.servers,(a0.servers.length:Int),0,()),((a0.now,a0.servers,a0.sides,a0.master.configs,a0.master.activated,a0.masterUp,a0.lease.epoch,a0.lease.holder,a0.lease.ends,a0.places,()),(0,(),(),(),0,0,0,0,0,(),()),(a0.now,(),a0.sides,a0.master.configs,a0.master.activated,a0.masterUp,a0.lease.epoch,a0.lease.holder,a0.lease.ends,a0.places,()),()),([]:List qk),())).bind λe62=>(Jj e62.2.1.1.2.2.1).bind λy63=>(Jh (⟨e62.2.1.1.2.2.2.1,e62.2.1.1.2.2.2.2.1⟩:jZ)).bind λy64=>(Lq e62.2.1.1.2.2.2.2.2.2.2.2.2.1).bind λy65=>some ((⟨e62.2.1.2.2.1.1,e62.2.2.1,y63.1,y64.1,e62.2.1.2.2.1.2.2.2.2.2.1,(⟨e62.2.1.2.2.1.2.2.2.2.2.2.1,e62.2.1.2.2.1.2.2.2.2.2.2.2.1,e62.2.1.2.2.1.2.2.2.2.2.2.2.2.1⟩:uN),y65.1⟩:qh),())
def JE[dE] :=Fg 51 Tryz.f51 Ss UC (λx=>FD x.1) [RQ,Po,Uq] [TC] (by kernel_rfl) λx=>by simp only[FD,tm];kernel_rfl
def Nu(a0:List rp):Option (Int×(List rp)×Unit):=
 (Jg a0).bind λy1=>br (!y1.1) (some (0,([]:List rp),())) (iteP (0<=(if(aeq .i64 ((a0.length:Int)-3))>0 then(aeq .i64 ((a0.length:Int)-3))else 0)/\(if(aeq .i64 ((a0.length:Int)-3))>0 then(aeq .i64 ((a0.length:Int)-3))else 0)<=(a0.length:Int)/\(a0.length:Int)<=(a0.length:Int)) ((FS ((a0.drop (if(aeq .i64 ((a0.length:Int)-3))>0 then(aeq .i64 ((a0.length:Int)-3))else 0).toNat).take ((a0.length:Int).toNat-(if(aeq .i64 ((a0.length:Int)-3))>0 then(aeq .i64 ((a0.length:Int)-3))else 0).toNat))).bind λy2=>some ((if(aeq .i64 ((a0.length:Int)-3))>0 then(aeq .i64 ((a0.length:Int)-3))else 0),y2.1,())) none)
def VS[dE] :=Fg 209 Tryz.f209 RU aaO (λx=>Nu x.1) [RI,I8] [] (by kernel_rfl) λx=>by simp only[Nu,tm];kernel_rfl
def GG(a0:qh)(a1:Int)(a2:Int):Option (qh×Bool×Unit):=
 (FD a0).bind λy1=>(FU a0 a1).bind λy2=>br (!y2.1) (some (y1.1,false,())) (iteP (0<=a1) ((a0.servers[a1.toNat]?).bind λx3=>(I0 x3.config a2).bind λy4=>br (y4.1==0) (some (y1.1,false,())) ((QC a0 a1 a2).bind λy5=>br (!y5.1) (some (y1.1,false,())) (iteP (0<=a1) ((a0.servers[a1.toNat]?).bind λx6=>(Gi x6).bind λy7=>iteP (0<=a1) ((a0.servers[a1.toNat]?).bind λx8=>(I0 x8.config a2).bind λy9=>br (y9.1==3) ((Nu y7.1.log).bind λy10=>iteP (0<=a2/\a2<(y1.1.servers.length:Int)) (iteP (0<=a2/\a2<(y1.1.servers.length:Int)) ((y1.1.servers[a2.toNat]?).bind λx11=>let z12:=y1.1.servers.set a2.toNat (⟨x11.up,x11.intact,x11.version,x11.epoch,x11.config,y10.1,x11.log,x11.commit,x11.learned⟩:qk);(z12[a2.toNat]?).bind λx13=>some ((⟨y1.1.now,(z12.set a2.toNat (⟨x13.up,x13.intact,x13.version,x13.epoch,x13.config,x13.first,y10.2.1,x13.commit,x13.learned⟩:qk)),y1.1.sides,y1.1.master,y1.1.masterUp,y1.1.lease,y1.1.places⟩:qh),true,())) none) none) (iteP (0<=a2/\a2<(y1.1.servers.length:Int)) ((y1.1.servers[a2.toNat]?).bind λx15=>some ((⟨y1.1.now,(y1.1.servers.set a2.toNat (⟨x15.up,x15.intact,x15.version,x15.epoch,x15.config,x15.first,y7.1.log,x15.commit,x15.learned⟩:qk)),y1.1.sides,y1.1.master,y1.1.masterUp,y1.1.lease,y1.1.places⟩:qh),true,())) none)) none) none))) none)
def Ub[dE] :=Fg 196 Tryz.f196 Su Y4 (λx=>GG x.1 x.2.1 x.2.2.1) [JE,Ms,P3,YR,Ni,VS] [] (by kernel_rfl) λx=>by simp only[GG,tm];kernel_rfl
abbrev LF:LX:=⟨⟨[KG,Mc,Qg,VY,Xw,RV,(28,.cl (.own 0 (.i .i64))),(29,.cl (.int .i64)),(30,.cl (.int .i64))],[JZ,K5,Vu],Xy,0,68⟩,[(.ext 0,⟨[KG,Mc,Qg,VY,Xw,RV],[JZ,K5,Vu],Xy,0,68⟩)],[],[1,2,4,6,7,8,28,29,30],[1,2,4,6,7,8]⟩
def Hu(s: (Int×Unit×Unit×Unit×Unit×Bool×Unit×Int×Int×Unit)×(Nn×LL×LL×Unit)×List Int×List qk×List Int×List nG×List uQ×Unit):LF.R:=
 br (decide (s.1.2.2.2.2.2.2.2.2.1<s.1.2.2.2.2.2.2.2.1)) (iteP (0<=s.1.2.2.2.2.2.2.2.2.1/\s.1.2.2.2.2.2.2.2.2.1<(s.2.2.1.length:Int)) ((s.2.2.1[s.1.2.2.2.2.2.2.2.2.1.toNat]?).bind λx36=>(GG (⟨s.2.1.2.2.1.1,s.2.2.2.1,s.2.2.2.2.1,(⟨s.2.2.2.2.2.1,s.2.1.2.2.1.2.2.2.2.1⟩:jZ),s.2.1.2.2.1.2.2.2.2.2.1,(⟨s.2.1.2.2.1.2.2.2.2.2.2.1,s.2.1.2.2.1.2.2.2.2.2.2.2.1,s.2.1.2.2.1.2.2.2.2.2.2.2.2.1⟩:uN),s.2.2.2.2.2.2.1⟩:qh) s.1.1 x36).bind λy37=>let j39 (p38:Bool):LF.R:=some (.inl ((s.1.1,(),(),(),(),p38,(),s.1.2.2.2.2.2.2.2.1,(aeq .i64 (s.1.2.2.2.2.2.2.2.2.1+1)),()),(s.2.1.1,s.2.1.2.1,(y37.1.now,(),(),(),y37.1.master.activated,y37.1.masterUp,y37.1.lease.epoch,y37.1.lease.holder,y37.1.lease.ends,(),()),()),s.2.2.1,y37.1.servers,y37.1.sides,y37.1.master.configs,y37.1.places,()));br s.1.2.2.2.2.2.1 (j39 y37.2.1) (j39 false)) none) (some (.inr ((s.1.1,(),(),(),(),s.1.2.2.2.2.2.1,()),s.2)))
def Oi:=ny Hu
def R4[dE] :=H5 Tryz.f95 [0] LF Hu [Ub] [] (by kernel_rfl) λs=>by simp only[Hu,tm];kernel_rfl
abbrev N0:LX:=⟨⟨[KG,Mc,Qg,VY,RV,(47,.cl (.own 0 (.i .i64))),(48,.cl (.int .i64)),(49,.cl (.int .i64))],[JZ,K5,Vu],Xy,0,68⟩,[(.ext 2,⟨[Qh,PO,RV],[K5,WH],Yw,0,68⟩)],[],[1,2,4,6,8,47,48,49],[4,6,8]⟩
def He(s:acT×(Nn×LL×LL×Unit)×List Int×List qk×List Int×List nG×List uQ×Unit):N0.R:=
 br (decide (s.1.2.2.2.2.2.2.2.1<s.1.2.2.2.2.2.2.1)) (iteP (0<=s.1.2.2.2.2.2.2.2.1/\s.1.2.2.2.2.2.2.2.1<(s.2.2.1.length:Int)) ((s.2.2.1[s.1.2.2.2.2.2.2.2.1.toNat]?).bind λx72=>iteP (0<=s.1.1) ((s.2.1.1.2.1[s.1.1.toNat]?).bind λx73=>iteP (0<=x72/\x72<(s.2.2.2.1.length:Int)) ((s.2.2.2.1[x72.toNat]?).bind λx74=>some (.inl ((s.1.1,(),(),(),s.1.2.2.2.2.1,(),s.1.2.2.2.2.2.2.1,(aeq .i64 (s.1.2.2.2.2.2.2.2.1+1)),()),s.2.1,s.2.2.1,(s.2.2.2.1.set x72.toNat (⟨x74.up,x74.intact,x74.version,x74.epoch,x74.config,x74.first,x74.log,(x73.log.length:Int),x74.learned⟩:qk)),s.2.2.2.2))) none) none) none) (some (.inr (((),(),s.1.2.2.2.2.1,()),s.2.1.2,s.2.2.2)))
def NQ:=ny He
def Rm[dE] :=H5 Tryz.f95 [1] N0 He [] [] (by kernel_rfl) λs=>by simp only[He,tm];kernel_rfl
def Ig(a0:qh)(a1:Int):Option (qh×Bool×Unit):=
 (FD a0).bind λy1=>(FU a0 a1).bind λy2=>br (!y2.1) (some (y1.1,false,())) (iteP (0<=a1) ((a0.servers[a1.toNat]?).bind λx3=>(Iu x3.config).bind λy4=>(Oi ((a1,(),(),(),(),true,(),(y4.1.length:Int),0,()),((a0.now,a0.servers,a0.sides,a0.master.configs,a0.master.activated,a0.masterUp,a0.lease.epoch,a0.lease.holder,a0.lease.ends,a0.places,()),(0,(),(),(),0,0,0,0,0,(),()),(y1.1.now,(),(),(),y1.1.master.activated,y1.1.masterUp,y1.1.lease.epoch,y1.1.lease.holder,y1.1.lease.ends,(),()),()),y4.1,y1.1.servers,y1.1.sides,y1.1.master.configs,y1.1.places,())).bind λe40=>br e40.1.2.2.2.2.2.1 ((NQ ((e40.1.1,(),(),(),e40.1.2.2.2.2.2.1,(),(e40.2.2.1.length:Int),0,()),e40.2)).bind λe76=>some ((⟨e76.2.1.2.1.1,e76.2.2.1,e76.2.2.2.1,(⟨e76.2.2.2.2.1,e76.2.1.2.1.2.2.2.2.1⟩:jZ),e76.2.1.2.1.2.2.2.2.2.1,(⟨e76.2.1.2.1.2.2.2.2.2.2.1,e76.2.1.2.1.2.2.2.2.2.2.2.1,e76.2.1.2.1.2.2.2.2.2.2.2.2.1⟩:uN),e76.2.2.2.2.2.1⟩:qh),e76.1.2.2)) (some ((⟨e40.2.1.2.2.1.1,e40.2.2.2.1,e40.2.2.2.2.1,(⟨e40.2.2.2.2.2.1,e40.2.1.2.2.1.2.2.2.2.1⟩:jZ),e40.2.1.2.2.1.2.2.2.2.2.1,(⟨e40.2.1.2.2.1.2.2.2.2.2.2.1,e40.2.1.2.2.1.2.2.2.2.2.2.2.1,e40.2.1.2.2.1.2.2.2.2.2.2.2.2.1⟩:uN),e40.2.2.2.2.2.2.1⟩:qh),e40.1.2.2.2.2.2))) none)
def Tg[dE] :=Fg 95 Tryz.f95 Kl Y4 (λx=>Ig x.1 x.2.1) [JE,Ms,MJ] [R4,Rm] (by kernel_rfl) λx=>by simp only[Ig,tm];kernel_rfl
def Jr(a0:jZ)(a1:nG):Option (jZ×Bool×Unit):=
 (Jh a0).bind λy1=>(HM a0).bind λy2=>br (!y2.1) (some (y1.1,false,())) ((G4 a1).bind λy3=>br (!y3.1) (some (y1.1,false,())) (br (!(a1.epoch==(aeq .i64 ((a0.configs.length:Int)+1)))) (some (y1.1,false,())) ((Gh a1).bind λy4=>iteP ((y1.1.configs++([y4.1]:List nG)).length*64<=2 ^ 40) (some ((⟨(y1.1.configs++([y4.1]:List nG)),y1.1.activated⟩:jZ),true,())) none)))
def Tm[dE] :=Fg 123 Tryz.f123 acq Y5 (λx=>Jr x.1 x.2.1) [Po,Mq,KM,Lr] [] (by kernel_rfl) λx=>by simp only[Jr,tm];kernel_rfl
def Ko(a0:qh)(a1:nG):Option (qh×Int×Unit):=
 (FD a0).bind λy1=>(Gg a0).bind λy2=>br (!y2.1) (some (y1.1,1,())) ((HN a0).bind λy3=>br (!y3.1) (some (y1.1,8,())) ((Jr a0.master a1).bind λy4=>br (!y4.2.1) (some (y1.1,1,())) (some ((⟨y1.1.now,y1.1.servers,y1.1.sides,y4.1,y1.1.masterUp,y1.1.lease,y1.1.places⟩:qh),0,()))))
def U8[dE] :=Fg 36 Tryz.f36 acr OE (λx=>Ko x.1 x.2.1) [JE,I7,Ov,Tm] [] (by kernel_rfl) λx=>by simp only[Ko,tm];kernel_rfl
def Lc(a0:jZ):Option (nG×Bool×Unit):=
 (Jf a0 (a0.configs.length:Int)).bind λy1=>some (y1.1,y1.2.1,())
def Wf[dE] :=Fg 106 Tryz.f106 Xu Yr (λx=>Lc x.1) [Rd] [] (by kernel_rfl) λx=>by simp only[Lc,tm];kernel_rfl
def LR(a0:uN):Option (Int×Unit):=
 br ((a0.epoch==0)&&((a0.holder==0)&&((a0.ends==0)&&true))) (some (0,())) ((Hx a0).bind λy1=>br (!y1.1) (some (0,())) (some ((aeq .i64 (a0.ends+3)),())))
def X4[dE] :=Fg 53 Tryz.f53 YV JJ (λx=>LR x.1) [Sb] [] (by kernel_rfl) λx=>by simp only[LR,tm];kernel_rfl
def Hn(a0:uN)(a1:Int):Option (Bool×Unit):=
 (Hx a0).bind λy1=>br y1.1 ((ET a1 0 999).bind λy2=>br y2.1 ((LR a0).bind λy3=>some ((decide (a1≥y3.1)),())) (some (false,()))) (some (false,()))
def U7[dE] :=Fg 107 Tryz.f107 acp [.b] (λx=>Hn x.1 x.2.1) [Sb,G0,X4] [] (by kernel_rfl) λx=>by simp only[Hn,tm];kernel_rfl
def Ld(a0:qk)(a1:Int):Option (qk×Bool×Unit):=
 (Gi a0).bind λy1=>(ET a1 1 20).bind λy2=>br (!y2.1) (some (y1.1,false,())) (br (decide (a0.epoch<0)) (some (y1.1,false,())) (br (decide (a1<=a0.epoch)) (some (y1.1,false,())) (some ((⟨y1.1.up,y1.1.intact,y1.1.version,a1,y1.1.config,y1.1.first,y1.1.log,y1.1.commit,y1.1.learned⟩:qk),true,()))))
def Wg[dE] :=Fg 201 Tryz.f201 Vr Y6 (λx=>Ld x.1 x.2.1) [Ni,G0] [] (by kernel_rfl) λx=>by simp only[Ld,tm];kernel_rfl
abbrev MX:LX:=⟨⟨[KG,QY,S6,PO,(7,.cl (.ptr 2 0)),(38,.cl (.own 0 (.i .i64))),(39,.cl (.int .i64)),(40,.cl (.int .i64))],[JZ,K5,Vu],Xy,0,73⟩,[(.ext 0,⟨[(6,.cl (.ptr 0 0)),(7,.cl (.ptr 1 0))],[K5,WH],Yw,0,73⟩)],[],[1,2,3,6,7,38,39,40],[6,7]⟩
def GH(s: (Int×Int×Unit×Unit×Unit×Unit×Int×Int×Unit)×(Nn×LL×LL×Unit)×List Int×List qk×List Int×List nG×List uQ×Unit):MX.R:=
 br (decide (s.1.2.2.2.2.2.2.2.1<s.1.2.2.2.2.2.2.1)) (iteP (0<=s.1.2.2.2.2.2.2.2.1/\s.1.2.2.2.2.2.2.2.1<(s.2.2.1.length:Int)) ((s.2.2.1[s.1.2.2.2.2.2.2.2.1.toNat]?).bind λx37=>iteP (0<=x37/\x37<(s.2.2.2.1.length:Int)) ((s.2.2.2.1[x37.toNat]?).bind λx38=>let j49 (p48:List qk):MX.R:=some (.inl ((s.1.1,s.1.2.1,(),(),(),(),s.1.2.2.2.2.2.2.1,(aeq .i64 (s.1.2.2.2.2.2.2.2.1+1)),()),s.2.1,s.2.2.1,p48,s.2.2.2.2));br x38.up ((IE s.2.1.1.2.2.1 s.1.1 x37).bind λy39=>br y39.1 (iteP (0<=x37/\x37<(s.2.2.2.1.length:Int)) ((s.2.2.2.1[x37.toNat]?).bind λx40=>(s.2.2.2.1[x37.toNat]?).bind λx41=>iteP (0+x40.config.replicas.length<=x41.config.replicas.length) ((s.2.2.2.1[x37.toNat]?).bind λx42=>iteP (0+x40.config.witnesses.length<=x42.config.witnesses.length) ((s.2.2.2.1[x37.toNat]?).bind λx43=>iteP (0+x40.log.length<=x43.log.length) ((s.2.2.2.1[x37.toNat]?).bind λx44=>iteP (0+x40.learned.length<=x44.learned.length) ((Ld (⟨x40.up,x40.intact,x40.version,x40.epoch,(⟨x40.config.epoch,x40.config.primary,((x41.config.replicas.drop 0).take x40.config.replicas.length),((x42.config.witnesses.drop 0).take x40.config.witnesses.length)⟩:nG),x40.first,((x43.log.drop 0).take x40.log.length),x40.commit,((x44.learned.drop 0).take x40.learned.length)⟩:qk) s.1.2.1).bind λy45=>iteP (0<=x37/\x37<(s.2.2.2.1.length:Int)) ((s.2.2.2.1[x37.toNat]?).bind λ_=>j49 (s.2.2.2.1.set x37.toNat y45.1)) none) none) none) none) none) none) (j49 s.2.2.2.1)) (j49 s.2.2.2.1)) none) none) (some (.inr (((),(),()),s.2.1.2,s.2.2.2)))
def MU:=ny GH
def TA[dE] :=H5 Tryz.f108 [0] MX GH [Pn,Wg] [] (by kernel_rfl) λs=>by simp only[GH,tm];kernel_rfl
def Ho(a0:qh)(a1:Int)(a2:Int):Option (qh×Unit):=
 (FD a0).bind λy1=>(E0 a0.master).bind λy2=>(Gg a0).bind λy3=>br (!y3.1) (some (y1.1,())) (br (!y2.2.1) (some (y1.1,())) ((ET a2 1 (a0.master.configs.length:Int)).bind λy4=>br (!y4.1) (some (y1.1,())) ((Iu y2.1).bind λy5=>(MU ((a1,a2,(),(),(),(),(y5.1.length:Int),0,()),((a0.now,a0.servers,a0.sides,a0.master.configs,a0.master.activated,a0.masterUp,a0.lease.epoch,a0.lease.holder,a0.lease.ends,a0.places,()),(0,(),(),(),0,0,0,0,0,(),()),(y1.1.now,(),(),(),y1.1.master.activated,y1.1.masterUp,y1.1.lease.epoch,y1.1.lease.holder,y1.1.lease.ends,(),()),()),y5.1,y1.1.servers,y1.1.sides,y1.1.master.configs,y1.1.places,())).bind λe50=>some ((⟨e50.2.1.2.1.1,e50.2.2.1,e50.2.2.2.1,(⟨e50.2.2.2.2.1,e50.2.1.2.1.2.2.2.2.1⟩:jZ),e50.2.1.2.1.2.2.2.2.2.1,(⟨e50.2.1.2.1.2.2.2.2.2.2.1,e50.2.1.2.1.2.2.2.2.2.2.2.1,e50.2.1.2.1.2.2.2.2.2.2.2.2.1⟩:uN),e50.2.2.2.2.2.1⟩:qh),()))))
def U9[dE] :=Fg 108 Tryz.f108 Su UC (λx=>Ho x.1 x.2.1 x.2.2.1) [JE,HF,I7,G0,MJ] [TA] (by kernel_rfl) λx=>by simp only[Ho,tm];kernel_rfl
def LS(a0:qh)(a1:Int)(a2:Int)(a3:Int):Option (Bool×Unit):=
 iteP (0<=a2) ((a0.servers[a2.toNat]?).bind λx1=>br x1.up ((IE a0.sides a1 a2).bind λy2=>br y2.1 (some ((x1.config.epoch==a3),())) (some (false,()))) (some (false,()))) none
def Ud[dE] :=Fg 245 Tryz.f245 acw [.b] (λx=>LS x.1 x.2.1 x.2.2.1 x.2.2.2.1) [Pn] [] (by kernel_rfl) λx=>by simp only[LS,tm];kernel_rfl
abbrev Qn:LX:=⟨⟨[KG,Mc,NZ,PO,(27,.cl (.own 1 (.i .i64))),(28,.cl (.int .i64)),(29,.cl (.int .i64))],[JZ,ZI],aaV,0,45⟩,[(.ext 0,⟨[NZ],[],Jl,0,45⟩)],[],[1,2,5,6,27,28,29],[5]⟩
def IR(s: (Int×Unit×Unit×Unit×Unit×Int×Int×Unit)×(Nn×Sv×Unit)×List Int×List Int×List Int×Unit):Qn.R:=
 br (decide (s.1.2.2.2.2.2.2.1<s.1.2.2.2.2.2.1)) (iteP (0<=s.1.2.2.2.2.2.2.1/\s.1.2.2.2.2.2.2.1<(s.2.2.2.1.length:Int)) ((s.2.2.2.1[s.1.2.2.2.2.2.2.1.toNat]?).bind λx21=>(LS (⟨s.2.1.1.1,s.2.1.1.2.1,s.2.1.1.2.2.1,(⟨s.2.1.1.2.2.2.1,s.2.1.1.2.2.2.2.1⟩:jZ),s.2.1.1.2.2.2.2.2.1,(⟨s.2.1.1.2.2.2.2.2.2.1,s.2.1.1.2.2.2.2.2.2.2.1,s.2.1.1.2.2.2.2.2.2.2.2.1⟩:uN),s.2.1.1.2.2.2.2.2.2.2.2.2.1⟩:qh) s.1.1 x21 s.2.1.2.1.1).bind λy22=>br y22.1 (iteP ((s.2.2.1++([x21]:List Int)).length*8<=2 ^ 40) (some (.inl ((s.1.1,(),(),(),(),s.1.2.2.2.2.2.1,(aeq .i64 (s.1.2.2.2.2.2.2.1+1)),()),s.2.1,(s.2.2.1++([x21]:List Int)),s.2.2.2))) none) (some (.inl ((s.1.1,(),(),(),(),s.1.2.2.2.2.2.1,(aeq .i64 (s.1.2.2.2.2.2.2.1+1)),()),s.2)))) none) (some (.inr (((),()),(()),s.2.2.1,())))
def Qb:=ny IR
def UK[dE] :=H5 Tryz.f244 [0] Qn IR [Ud] [] (by kernel_rfl) λs=>by simp only[IR,tm];kernel_rfl
def HK(a0:qh)(a1:Int):Option ((List Int)×Unit):=
 (E0 a0.master).bind λy1=>br (!y1.2.1) (some (([]:List Int),())) ((Fp a0 a1).bind λy2=>br (!y2.1) (some (([]:List Int),())) ((Qb ((a1,(),(),(),(),(y1.1.replicas.length:Int),0,()),((a0.now,a0.servers,a0.sides,a0.master.configs,a0.master.activated,a0.masterUp,a0.lease.epoch,a0.lease.holder,a0.lease.ends,a0.places,()),(y1.1.epoch,y1.1.primary,(),(),()),()),([]:List Int),y1.1.replicas,y1.1.witnesses,())).bind λe24=>some e24.2.2))
def Wh[dE] :=Fg 244 Tryz.f244 Kl K4 (λx=>HK x.1 x.2.1) [HF,Mr] [UK] (by kernel_rfl) λx=>by simp only[HK,tm];kernel_rfl
abbrev Qm:LX:=⟨⟨[Mc,Nm,acG,Uy,Qi],[JZ],Jl,0,38⟩,[(.ext 0,⟨[Nm],[],[],0,38⟩)],[],[2,5,10,11,12],[5]⟩
def IQ(s: (Unit×Int×Unit×Int×Int×Unit)×(Nn×Unit)×List Int×Unit):Qm.R:=
 br (decide (s.1.2.2.2.2.1<s.1.2.2.2.1)) (iteP (0<=s.1.2.2.2.2.1/\s.1.2.2.2.2.1<(s.2.2.1.length:Int)) ((s.2.2.1[s.1.2.2.2.2.1.toNat]?).bind λx16=>br (decide (s.1.2.1<0)) (some (.inl (((),x16,(),s.1.2.2.2.1,(aeq .i64 (s.1.2.2.2.2.1+1)),()),s.2))) (iteP (0<=x16) ((s.2.1.1.2.1[x16.toNat]?).bind λx17=>iteP (0<=s.1.2.1) ((s.2.1.1.2.1[s.1.2.1.toNat]?).bind λx18=>br (decide ((x17.log.length:Int)>(x18.log.length:Int))) (some (.inl (((),x16,(),s.1.2.2.2.1,(aeq .i64 (s.1.2.2.2.2.1+1)),()),s.2))) (some (.inl (((),s.1.2.1,(),s.1.2.2.2.1,(aeq .i64 (s.1.2.2.2.2.1+1)),()),s.2)))) none) none)) none) (some (.inr ((s.1.2.1,()),(()),(()))))
def NP:=ny IQ
def UJ[dE] :=H5 Tryz.f202 [0] Qm IQ [] [] (by kernel_rfl) λs=>by simp only[IQ,tm];kernel_rfl
def Iq(a0:qh)(a1:Int):Option (Int×Unit):=
 (HK a0 a1).bind λy1=>(NP (((),(-1),(),(y1.1.length:Int),0,()),((a0.now,a0.servers,a0.sides,a0.master.configs,a0.master.activated,a0.masterUp,a0.lease.epoch,a0.lease.holder,a0.lease.ends,a0.places,()),()),y1.1,())).bind λe20=>some e20.1
def We[dE] :=Fg 202 Tryz.f202 Kl JJ (λx=>Iq x.1 x.2.1) [Wh] [UJ] (by kernel_rfl) λx=>by simp only[Iq,tm];kernel_rfl
def Jn(a0:qk):Option ((List rp)×Unit):=
 br (decide (a0.first<0)) (some (([]:List rp),())) ((ET a0.commit a0.first (aeq .i64 (a0.first+(a0.log.length:Int)))).bind λy1=>br (!y1.1) (some (([]:List rp),())) (iteP (0<=(0:Int)/\(0:Int)<=(aeq .i64 (a0.commit-a0.first))/\(aeq .i64 (a0.commit-a0.first))<=(a0.log.length:Int)) ((FS ((a0.log.drop (0:Int).toNat).take ((aeq .i64 (a0.commit-a0.first)).toNat-(0:Int).toNat))).bind λy2=>some (y2.1,())) none))
def Th[dE] :=Fg 267 Tryz.f267 VV Vt (λx=>Jn x.1) [G0,I8] [] (by kernel_rfl) λx=>by simp only[Jn,tm];kernel_rfl
def Mz(a0:qk)(a1:Int):Option (Bool×Unit):=
 (It a0.config.replicas a1).bind λy1=>some (y1.1,())
def Xc[dE] :=Fg 125 Tryz.f125 Vr [.b] (λx=>Mz x.1 x.2.1) [Oh] [] (by kernel_rfl) λx=>by simp only[Mz,tm];kernel_rfl
def Ii(a0:qk)(a1:Int):Option ((List rp)×Unit):=
 (Jn a0).bind λy1=>(Mz a0 a1).bind λy2=>br y2.1 (br (decide ((y1.1.length:Int)>(a0.learned.length:Int))) (some (y1.1,())) ((FS a0.learned).bind λy4=>some (y4.1,()))) ((FS a0.learned).bind λy5=>some (y5.1,()))
def To[dE] :=Fg 247 Tryz.f247 Vr Vt (λx=>Ii x.1 x.2.1) [Th,Xc,I8] [] (by kernel_rfl) λx=>by simp only[Ii,tm];kernel_rfl
def I6(a1:Int):Option ((List rp)×Unit):=
 br (decide (a1<0)) (none) (br (decide ((aeq .i64 (a1-(aeq .i64 (0-0))))>0)) (iteP ((0:Int)=0/\(0:Int)=0) (iteP (0<(aeq .i64 (a1-(aeq .i64 (0-0))))/\(aeq .i64 (a1-(aeq .i64 (0-0))))*((56:Nat):Int)<=2 ^ 40) (iteP (0<=(0:Int)/\(0:Int)<=(0:Int)/\(0:Int)<=(((aeq .i64 (a1-(aeq .i64 (0-0)))).toNat:Nat):Int)) (iteP ((0+(0:Int).toNat)=0/\((0:Int).toNat-(0:Int).toNat)<=(List.replicate (aeq .i64 (a1-(aeq .i64 (0-0)))).toNat (⟨0,(⟨0,0,0,0,0,0⟩:Op)⟩:rp)).length) (some (((List.replicate (aeq .i64 (a1-(aeq .i64 (0-0)))).toNat (⟨0,(⟨0,0,0,0,0,0⟩:Op)⟩:rp)).take ((0:Int).toNat-(0:Int).toNat)),())) none) none) none) none) (some (([]:List rp),())))
def Sk[dE] :=Fg 285 Tryz.f285 [.nl,.ty (.i .i64)] Vt (λx=>I6 x.2.1) [] [] (by kernel_rfl) λx=>by simp only[I6,tm,-eq_self];kernel_rfl
abbrev Ot:LX:=⟨⟨[(0,.cl (.ro (.ls (.st .entry)))),OC,(9,.cl (.ro (.ls (.st .entry)))),Uz,Uy],[],[],0,36⟩,[(.ext 0,⟨[(0,.cl (.ro (.ls (.st .entry)))),OC],[],[],0,36⟩)],[],[0,3,9,10,11],[0,3]⟩
def Hw(s: (List (List rp)×Int×List (List rp)×Int×Int×Unit)×Unit×Unit):Ot.R:=
 br (decide (s.1.2.2.2.2.1<s.1.2.2.2.1)) (iteP (0<=s.1.2.2.2.2.1) ((s.1.2.2.1[s.1.2.2.2.2.1.toNat]?).bind λx6=>br (decide ((aeq .i64 (s.1.2.1+(x6.length:Int)))<0)) (none) (some (.inl ((s.1.1,(aeq .i64 (s.1.2.1+(x6.length:Int))),s.1.2.2.1,s.1.2.2.2.1,(aeq .i64 (s.1.2.2.2.2.1+1)),()),(()),(()))))) none) (some (.inr ((s.1.1,s.1.2.1,()),(()),(()))))
def Ol:=ny Hw
def R7[dE] :=H5 Tryz.f266 [0] Ot Hw [] [] (by kernel_rfl) λs=>by simp only[Hw,tm];kernel_rfl
abbrev Oa:LX:=⟨⟨[VX,(25,.cl (.ro (.ls (.st .entry)))),(26,.cl (.int .i64)),(27,.cl (.int .i64))],[],abV,0,36⟩,[(.ext 2,⟨[VX],[],abV,0,36⟩)],[],[6,25,26,27],[6]⟩
def Hj(s: (Unit×List (List rp)×Int×Int×Unit)×Unit×List rp×Unit):Oa.R:=
 br (decide (s.1.2.2.2.1<s.1.2.2.1)) (iteP (0<=s.1.2.2.2.1) ((s.1.2.1[s.1.2.2.2.1.toNat]?).bind λx13=>iteP ((s.2.2.1++x13).length*56<=2 ^ 40) (some (.inl (((),s.1.2.1,s.1.2.2.1,(aeq .i64 (s.1.2.2.2.1+1)),()),(()),(s.2.2.1++x13),()))) none) none) (some (.inr (((),()),(()),s.2.2)))
def NV:=ny Hj
def Rv[dE] :=H5 Tryz.f266 [1] Oa Hj [] [] (by kernel_rfl) λs=>by simp only[Hj,tm];kernel_rfl
def Im(a0:List (List rp)):Option ((List rp)×Unit):=
 (Ol ((a0,0,a0,(a0.length:Int),0,()),(()),(()))).bind λe7=>(I6 e7.1.2.1).bind λy8=>(NV (((),e7.1.1,(e7.1.1.length:Int),0,()),(()),y8.1,())).bind λe14=>some e14.2.2
def Tu[dE] :=Fg 266 Tryz.f266 [.ty (.ls (.ls (.st .entry)))] Vt (λx=>Im x.1) [Sk] [R7,Rv] (by kernel_rfl) λx=>by simp only[Im,tm];kernel_rfl
abbrev Pc:LX:=⟨⟨[Qk,aaE,Qi,aaG],[],[],0,26⟩,[(.ret,⟨[S4],[],[],0,26⟩),(.ext 0,⟨[Oo],[],[],0,26⟩)],[],[0,1,12,13],[4]⟩
def HX(s:acS×Unit×Unit):Pc.R:=
 br (decide (s.1.2.2.2.1<s.1.2.2.1)) (iteP (0<=s.1.2.2.2.1) ((s.1.1[s.1.2.2.2.1.toNat]?).bind λx5=>iteP (0<=s.1.2.2.2.1) ((s.1.2.1[s.1.2.2.2.1.toNat]?).bind λx6=>br (!((x5.epoch==x6.epoch)&&((x5.op.client==x6.op.client)&&((x5.op.seq==x6.op.seq)&&((x5.op.kind==x6.op.kind)&&((x5.op.object==x6.op.object)&&((x5.op.old==x6.op.old)&&((x5.op.value==x6.op.value)&&true)))))))) (some (.inr (.inl ((false,()),(()),(()))))) (some (.inl ((s.1.1,s.1.2.1,s.1.2.2.1,(aeq .i64 (s.1.2.2.2.1+1)),()),(()),(()))))) none) none) (some (.inr (.inr (((),()),(()),(())))))
def Mb:=ny HX
def SF[dE] :=H5 Tryz.f176 [0] Pc HX [] [] (by kernel_rfl) λs=>by simp only[HX,tm];kernel_rfl
def Ht(a0:List rp)(a1:List rp):Option (Bool×Unit):=
 br (!((a0.length:Int)==(a1.length:Int))) (some (false,())) ((Mb ((a0,a1,(a0.length:Int),0,()),(()),(()))).bind λe7=>Sum.elim (λe7_0=>some e7_0.1) (λ_=>some (true,())) e7)
def Qa[dE] :=Fg 176 Tryz.f176 YX [.b] (λx=>Ht x.1 x.2.1) [] [SF] (by kernel_rfl) λx=>by simp only[Ht,tm];kernel_rfl
def Ny(a0:List rp)(a1:Int)(a2:List rp):Option ((List rp)×Bool×Unit):=
 (Jg a0).bind λy1=>br (!y1.1) (some (([]:List rp),false,())) ((Nz a1 a2).bind λy2=>br (!y2.1) (some (([]:List rp),false,())) (br (decide (a1>(a0.length:Int))) (some (([]:List rp),false,())) (iteP (0<=(if(aeq .i64 ((a0.length:Int)-a1))<(a2.length:Int)then(aeq .i64 ((a0.length:Int)-a1))else(a2.length:Int))/\(if(aeq .i64 ((a0.length:Int)-a1))<(a2.length:Int)then(aeq .i64 ((a0.length:Int)-a1))else(a2.length:Int))<=(a2.length:Int)/\(a2.length:Int)<=(a2.length:Int)) ((Im ([a0,((a2.drop (if(aeq .i64 ((a0.length:Int)-a1))<(a2.length:Int)then(aeq .i64 ((a0.length:Int)-a1))else(a2.length:Int)).toNat).take ((a2.length:Int).toNat-(if(aeq .i64 ((a0.length:Int)-a1))<(a2.length:Int)then(aeq .i64 ((a0.length:Int)-a1))else(a2.length:Int)).toNat))]:List (List rp))).bind λy3=>iteP (0<=a1/\a1<=(aeq .i64 (a1+(if(aeq .i64 ((a0.length:Int)-a1))<(a2.length:Int)then(aeq .i64 ((a0.length:Int)-a1))else(a2.length:Int))))/\(aeq .i64 (a1+(if(aeq .i64 ((a0.length:Int)-a1))<(a2.length:Int)then(aeq .i64 ((a0.length:Int)-a1))else(a2.length:Int))))<=(a0.length:Int)) (iteP (0<=(0:Int)/\(0:Int)<=(if(aeq .i64 ((a0.length:Int)-a1))<(a2.length:Int)then(aeq .i64 ((a0.length:Int)-a1))else(a2.length:Int))/\(if(aeq .i64 ((a0.length:Int)-a1))<(a2.length:Int)then(aeq .i64 ((a0.length:Int)-a1))else(a2.length:Int))<=(a2.length:Int)) ((Ht ((a0.drop a1.toNat).take ((aeq .i64 (a1+(if(aeq .i64 ((a0.length:Int)-a1))<(a2.length:Int)then(aeq .i64 ((a0.length:Int)-a1))else(a2.length:Int)))).toNat-a1.toNat)) ((a2.drop (0:Int).toNat).take ((if(aeq .i64 ((a0.length:Int)-a1))<(a2.length:Int)then(aeq .i64 ((a0.length:Int)-a1))else(a2.length:Int)).toNat-(0:Int).toNat))).bind λy4=>br (!y4.1) (some (([]:List rp),false,())) ((Jg y3.1).bind λy5=>br (!y5.1) (some (([]:List rp),false,())) (some (y3.1,true,())))) none) none) none)))
def X3[dE] :=Fg 246 Tryz.f246 acu ZG (λx=>Ny x.1 x.2.1 x.2.2.1) [RI,Xd,Tu,Qa] [] (by kernel_rfl) λx=>by simp only[Ny,tm];kernel_rfl
abbrev MY:LX:=⟨⟨[KG,Mc,PO,Y3,QZ,(12,.cl (.ptr 2 0)),aaH,aaI,aaJ,(52,.cl (.ro (.st .server))),(53,.cl (.int .i64)),(54,.cl (.int .i64))],[JZ,aaT,aaR],ZJ,0,99⟩,[(.ext 2,⟨[KG,Mc,PO,Y3,QZ,aaH,aaI,aaJ],[JZ,aaT],ZJ,0,99⟩)],[],[1,2,6,8,9,12,33,34,35,52,53,54],[1,2,6,8,9,33,34,35]⟩
def Ib(s: (Int×Unit×Unit×Unit×Bool×Unit×Unit×Int×Int×List qk×Int×Int×Unit)×(Nn×Sv×aaL×Unit)×List rp×List Int×List Int×Unit):MY.R:=
 br (decide (s.1.2.2.2.2.2.2.2.2.2.2.2.1<s.1.2.2.2.2.2.2.2.2.2.2.1)) (iteP (0<=s.1.2.2.2.2.2.2.2.2.2.2.2.1) ((s.1.2.2.2.2.2.2.2.2.2.1[s.1.2.2.2.2.2.2.2.2.2.2.2.1.toNat]?).bind λx59=>let j65 (p63:List rp) (p64:Bool):MY.R:=some (.inl ((s.1.1,(),(),(),p64,(),(),s.1.2.2.2.2.2.2.2.1,s.1.2.2.2.2.2.2.2.2.1,s.1.2.2.2.2.2.2.2.2.2.1,s.1.2.2.2.2.2.2.2.2.2.2.1,(aeq .i64 (s.1.2.2.2.2.2.2.2.2.2.2.2.1+1)),()),s.2.1,p63,s.2.2.2));br (!x59.up) (j65 s.2.2.1 s.1.2.2.2.2.1) ((IE s.2.1.1.2.2.1 s.1.1 s.1.2.2.2.2.2.2.2.2.2.2.2.1).bind λy60=>br (!y60.1) (j65 s.2.2.1 s.1.2.2.2.2.1) ((Ii x59 s.1.2.2.2.2.2.2.2.2.2.2.2.1).bind λy61=>(Ny y61.1 s.2.1.2.2.1.2.2.2.2.2.2.2.2.1 s.2.1.2.2.1.2.2.2.2.2.2.2.2.2.1).bind λy62=>br y62.2.1 (br (!s.1.2.2.2.2.1) (j65 y62.1 true) (br (decide ((y62.1.length:Int)>(s.2.2.1.length:Int))) (j65 y62.1 true) (j65 s.2.2.1 s.1.2.2.2.2.1))) (j65 s.2.2.1 s.1.2.2.2.2.1)))) none) (some (.inr ((s.1.1,(),(),(),s.1.2.2.2.2.1,(),s.1.2.2.2.2.2.2.2.1,s.1.2.2.2.2.2.2.2.2.1,()),(s.2.1.1,s.2.1.2.1,()),s.2.2)))
def PB:=ny Ib
def TB[dE] :=H5 Tryz.f204 [0,0] MY Ib [Pn,To,X3] [] (by kernel_rfl) λs=>by simp only[Ib,tm];kernel_rfl
abbrev Qo:LX:=⟨⟨[KG,Mc,PO,Y3,QZ,aaH,aaI,aaJ],[JZ,aaT],ZJ,0,99⟩,[(.ext 0,⟨[Y3,QZ],[],abV,0,99⟩)],[],[1,2,6,8,9,33,34,35],[8,9]⟩
def IT(s:acT×(Nn×Sv×Unit)×List rp×List Int×List Int×Unit):Qo.R:=
 br (decide (s.1.2.2.2.2.2.2.2.1<s.1.2.2.2.2.2.2.1)) (iteP (0<=s.1.2.2.2.2.2.2.2.1/\s.1.2.2.2.2.2.2.2.1<(s.2.2.2.1.length:Int)) ((s.2.2.2.1[s.1.2.2.2.2.2.2.2.1.toNat]?).bind λx22=>(LS (⟨s.2.1.1.1,s.2.1.1.2.1,s.2.1.1.2.2.1,(⟨s.2.1.1.2.2.2.1,s.2.1.1.2.2.2.2.1⟩:jZ),s.2.1.1.2.2.2.2.2.1,(⟨s.2.1.1.2.2.2.2.2.2.1,s.2.1.1.2.2.2.2.2.2.2.1,s.2.1.1.2.2.2.2.2.2.2.2.1⟩:uN),s.2.1.1.2.2.2.2.2.2.2.2.2.1⟩:qh) s.1.1 x22 s.2.1.2.1.1).bind λy23=>br (!y23.1) (some (.inl ((s.1.1,(),(),(),s.1.2.2.2.2.1,(),s.1.2.2.2.2.2.2.1,(aeq .i64 (s.1.2.2.2.2.2.2.2.1+1)),()),s.2))) (iteP (0<=x22) ((s.2.1.1.2.1[x22.toNat]?).bind λx24=>(PB ((s.1.1,(),(),(),s.1.2.2.2.2.1,(),(),s.1.2.2.2.2.2.2.1,s.1.2.2.2.2.2.2.2.1,s.2.1.1.2.1,(s.2.1.1.2.1.length:Int),0,()),(s.2.1.1,s.2.1.2.1,(x24.up,x24.intact,x24.version,x24.epoch,x24.config.epoch,x24.config.primary,x24.config.replicas,x24.config.witnesses,x24.first,x24.log,x24.commit,x24.learned,()),()),s.2.2)).bind λe66=>some (.inl ((e66.1.1,(),(),(),e66.1.2.2.2.2.1,(),e66.1.2.2.2.2.2.2.1,(aeq .i64 (e66.1.2.2.2.2.2.2.2.1+1)),()),e66.2))) none)) none) (some (.inr (((),s.1.2.2.2.2.1,()),(()),s.2.2.1,())))
def Qc:=ny IT
def UL[dE] :=H5 Tryz.f204 [0] Qo IT [Ud] [TB] (by kernel_rfl) λs=>by simp only[IT,tm];kernel_rfl
def Iv(a0:qh)(a1:Int):Option ((List rp)×Bool×Unit):=
 (E0 a0.master).bind λy1=>br (!y1.2.1) (some (([]:List rp),false,())) ((Fp a0 a1).bind λy2=>br (!y2.1) (some (([]:List rp),false,())) ((Qc ((a1,(),(),(),false,(),(y1.1.witnesses.length:Int),0,()),((a0.now,a0.servers,a0.sides,a0.master.configs,a0.master.activated,a0.masterUp,a0.lease.epoch,a0.lease.holder,a0.lease.ends,a0.places,()),(y1.1.epoch,y1.1.primary,(),(),()),()),([]:List rp),y1.1.witnesses,y1.1.replicas,())).bind λe86=>br (!e86.1.2.1) (some (([]:List rp),false,())) (some (e86.2.2.1,true,()))))
def Wi[dE] :=Fg 204 Tryz.f204 Kl ZG (λx=>Iv x.1 x.2.1) [HF,Mr] [UL] (by kernel_rfl) λx=>by simp only[Iv,tm];kernel_rfl
def I9(a0:qh)(a1:Int):Option ((List rp)×Bool×Unit):=
 (Fp a0 a1).bind λy1=>br (!y1.1) (some (([]:List rp),false,())) (br (a0.master.activated==0) (some (([]:List rp),true,())) ((Iq a0 a1).bind λy2=>br (decide (y2.1≥0)) (iteP (0<=y2.1) ((a0.servers[y2.1.toNat]?).bind λx3=>(FS x3.log).bind λy4=>some (y4.1,true,())) none) ((Iv a0 a1).bind λy5=>some (y5.1,y5.2.1,()))))
def Xb[dE] :=Fg 109 Tryz.f109 Kl ZG (λx=>I9 x.1 x.2.1) [Mr,We,I8,Wi] [] (by kernel_rfl) λx=>by simp only[I9,tm];kernel_rfl
def Pk(a0:qh)(a1:Int):Option (Bool×Unit):=
 iteP (0<=a1) ((a0.servers[a1.toNat]?).bind λx1=>br x1.up (iteP (0<=a1) ((a0.sides[a1.toNat]?).bind λx2=>some ((x2==0),())) none) (some (false,()))) none
def X5[dE] :=Fg 76 Tryz.f76 Kl [.b] (λx=>Pk x.1 x.2.1) [] [] (by kernel_rfl) λx=>by simp only[Pk,tm];kernel_rfl
def Kn(a0:Int)(a1:qh):Option (Bool×Unit):=
 (Pk a1 a0).bind λy1=>some ((!y1.1),())
def U3[dE] :=Fg 110 Tryz.f110 acB [.b] (λx=>Kn x.1 x.2.1) [X5] [] (by kernel_rfl) λx=>by simp only[Kn,tm];kernel_rfl
abbrev II:LX:=⟨⟨[OD,(1,.fn 110 [.pro (.st .cluster)]),PN,PE],[],[],0,19⟩,[(.ret,⟨[Of],[],[],0,19⟩),(.ext 0,⟨[Oo],[],[],0,19⟩)],[],[0,1,7,8],[4]⟩
def Fu(s: (List Int×(qh×Unit)×Int×Int×Unit)×Unit×Unit):II.R:=
 br (decide (s.1.2.2.2.1<s.1.2.2.1)) (iteP (0<=s.1.2.2.2.1) ((s.1.1[s.1.2.2.2.1.toNat]?).bind λx5=>(Kn x5 s.1.2.1.1).bind λy6=>br y6.1 (some (.inr (.inl (s.1.2.2.2,(()),(()))))) (some (.inl ((s.1.1,s.1.2.1,s.1.2.2.1,(aeq .i64 (s.1.2.2.2.1+1)),()),(()),(()))))) none) (some (.inr (.inr (((),()),(()),(())))))
def G9:=ny Fu
def LM[dE] :=H5 Tryz.f179 [0] II Fu [U3] [] (by kernel_rfl) λs=>by simp only[Fu,tm];kernel_rfl
def Gy(a0:List Int)(a1_0:qh):Option (Int×Unit):=
 (G9 ((a0,(a1_0,()),(a0.length:Int),0,()),(()),(()))).bind λe7=>Sum.elim (λe7_0=>some e7_0.1) (λ_=>some ((-1),())) e7
def MN[dE] :=Fg 179 Tryz.f179 [.ty (.ls (.i .i64)),.fn 110 UC] JJ (λx=>Gy x.1 x.2.1.1) [] [LM] (by kernel_rfl) λx=>by simp only[Gy,tm];kernel_rfl
def Fn(a0:List Int)(a1_0:qh):Option (Bool×Unit):=
 (Gy a0 a1_0).bind λy1=>some ((decide (y1.1≥0)),())
def Lu[dE] :=Fg 68 Tryz.f68 [.ty (.ls (.i .i64)),.fn 110 UC] [.b] (λx=>Fn x.1 x.2.1.1) [MN] [] (by kernel_rfl) λx=>by simp only[Fn,tm];kernel_rfl
def Mn(a0:Op):Option (Bool×Unit):=
 some ((a0.kind==2),())
def U6[dE] :=Fg 136 Tryz.f136 Xt [.b] (λx=>Mn x.1) [] [] (by kernel_rfl) λx=>by simp only[Mn,tm];kernel_rfl
def JH(a0:rp):Option (Bool×Unit):=
 (Mn a0.op).bind λy1=>some (y1.1,())
def RJ[dE] :=Fg 206 Tryz.f206 [.ty (.st .entry)] [.b] (λx=>JH x.1) [U6] [] (by kernel_rfl) λx=>by simp only[JH,tm];kernel_rfl
abbrev Hz:LX:=⟨⟨[Qk,(1,.cl (.fc 206)),PN,PE],[],[],0,19⟩,[(.ret,⟨[Of],[],[],0,19⟩),(.ext 0,⟨[Oo],[],[],0,19⟩)],[],[0,1,7,8],[4]⟩
def Fa(s:acQ×Unit×Unit):Hz.R:=
 br (decide (s.1.2.2.2.1<s.1.2.2.1)) (iteP (0<=s.1.2.2.2.1) ((s.1.1[s.1.2.2.2.1.toNat]?).bind λx4=>(JH x4).bind λy5=>br y5.1 (some (.inr (.inl (s.1.2.2.2,(()),(()))))) (some (.inl ((s.1.1,(),s.1.2.2.1,(aeq .i64 (s.1.2.2.2.1+1)),()),(()),(()))))) none) (some (.inr (.inr (((),()),(()),(())))))
def Gl:=ny Fa
def Kg[dE] :=H5 Tryz.f144 [0] Hz Fa [RJ] [] (by kernel_rfl) λs=>by simp only[Fa,tm];kernel_rfl
def FW(a0:List rp):Option (Int×Unit):=
 (Gl ((a0,(),(a0.length:Int),0,()),(()),(()))).bind λe6=>Sum.elim (λe6_0=>some e6_0.1) (λ_=>some ((-1),())) e6
def KC[dE] :=Fg 144 Tryz.f144 acC JJ (λx=>FW x.1) [] [Kg] (by kernel_rfl) λx=>by simp only[FW,tm];kernel_rfl
def FJ(a0:List rp):Option (Bool×Unit):=
 (FW a0).bind λy1=>some ((decide (y1.1≥0)),())
def JW[dE] :=Fg 205 Tryz.f205 acC [.b] (λx=>FJ x.1) [KC] [] (by kernel_rfl) λx=>by simp only[FJ,tm];kernel_rfl
def I1(a0:List rp):Option (Bool×Unit):=
 (FJ a0).bind λy1=>some (y1.1,())
def P4[dE] :=Fg 111 Tryz.f111 RU [.b] (λx=>I1 x.1) [JW] [] (by kernel_rfl) λx=>by simp only[I1,tm];kernel_rfl
def Ml(a0:Int)(a1:qh):Option (Bool×Unit):=
 iteP (0<=a0) ((a1.servers[a0.toNat]?).bind λx1=>some ((x1.version==1),())) none
def U4[dE] :=Fg 112 Tryz.f112 acB [.b] (λx=>Ml x.1 x.2.1) [] [] (by kernel_rfl) λx=>by simp only[Ml,tm];kernel_rfl
abbrev IJ:LX:=⟨⟨[OD,(1,.fn 112 [.pro (.st .cluster)]),PN,PE],[],[],0,19⟩,[(.ret,⟨[Of],[],[],0,19⟩),(.ext 0,⟨[Oo],[],[],0,19⟩)],[],[0,1,7,8],[4]⟩
def Fh(s: (List Int×(qh×Unit)×Int×Int×Unit)×Unit×Unit):IJ.R:=
 br (decide (s.1.2.2.2.1<s.1.2.2.1)) (iteP (0<=s.1.2.2.2.1) ((s.1.1[s.1.2.2.2.1.toNat]?).bind λx5=>(Ml x5 s.1.2.1.1).bind λy6=>br y6.1 (some (.inr (.inl (s.1.2.2.2,(()),(()))))) (some (.inl ((s.1.1,s.1.2.1,s.1.2.2.1,(aeq .i64 (s.1.2.2.2.1+1)),()),(()),(()))))) none) (some (.inr (.inr (((),()),(()),(())))))
def Ha:=ny Fh
def LN[dE] :=H5 Tryz.f179 [0] IJ Fh [U4] [] (by kernel_rfl) λs=>by simp only[Fh,tm];kernel_rfl
def Gz(a0:List Int)(a1_0:qh):Option (Int×Unit):=
 (Ha ((a0,(a1_0,()),(a0.length:Int),0,()),(()),(()))).bind λe7=>Sum.elim (λe7_0=>some e7_0.1) (λ_=>some ((-1),())) e7
def MO[dE] :=Fg 179 Tryz.f179 [.ty (.ls (.i .i64)),.fn 112 UC] JJ (λx=>Gz x.1 x.2.1.1) [] [LN] (by kernel_rfl) λx=>by simp only[Gz,tm];kernel_rfl
end
end Go.Proofs.YtkghndikalnipaaGreat.En
