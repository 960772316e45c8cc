/- Plain laws. -/
import Derived.Test.YtadabkgmdllbfabGreatZPT4
namespace Go.Proofs.YtadabkgmdllbfabGreat.En
open Go
theorem AP (m:eh) (h:sb 1048576 m) (c:ed) (hc:iu 1048576 c):Tt (fun y=>sb 1048576 y.1/\y.1.configs.length<=m.configs.length+1) (jM m c):=by
 have self:sb 1048576 m/\m.configs.length<=m.configs.length+1:=⟨h,ca _⟩
 obtain⟨b,b1,_⟩:=masterLog m (kL h);obtain⟨d,d1,_⟩:=kS c (eG hc);unfold jM;rw[(Gr m h).1,ae,b1,ae,ef];refine .br (fun e=> ?_) fun _=> .ret self;subst e;have hl:=Ow h b1;rw[d1,ae,ef];refine .br (fun _=> ?_) fun _=> .ret self;rw[ef];refine .br (fun _=> ?_) fun _=> .ret self;rw[(wC c hc).1,ae];have h2: (m.configs++ [c]).length<=21:=by rw[az,aB]; omega
 exact .ip (aO (bo 64 h2) (by omega)) (.ret ⟨⟨aO h2 (by omega),fun d hd=>(aY.1 hd).elim (h.2 d) fun e=>by rw[aD.1 e]; exact hc⟩,by show (m.configs++ [c]).length<=_; rw[az]; exact aq _⟩)
theorem Ab (x:dX) (ok:ft 1048576 x) (c:ed) (hc:iu 1048576 c):Tt (fun y=>Kp x y.1) (kg x c):=by unfold kg;rw[(gY x ok).1,ae];refine .bind (qo x ok) fun v _=> ?_;rw[ef];refine .br (fun _=> .br (fun _=> .ret (.self ok)) fun _=> .bind (AP x.master ok.2.2.1 c hc) fun m hm=> ?_) fun _=> .ret (.self ok);rw[ef];exact .br (fun _=> .ret ⟨⟨ok.1,ok.2.1,hm.1,ok.2.2.2⟩,rfl⟩) fun _=> .ret (.self ok)
theorem Ri (x:dX) (ok:ft 1048576 x) (n:Int):Tt (fun y=>Kp x y.1) (pj x n):=by unfold pj;rw[(gY x ok).1,ae];refine .bind (qo x ok) fun v _=> ?_;rw[ef];refine .br (fun _=> ?_) fun _=> .ret (.self ok);rw[gF,ae,ef];exact .br (fun _=> .ret ⟨ok,rfl⟩) fun _=> .ret (.self ok)
theorem Rj (x:dX) (ok:ft 1048576 x) (id:Int):Tt (fun y=>y.1=true->VC x/\0<=id/\id<5) (lH x id):=by obtain⟨b,b1,_,b2⟩:=Gs x id ok;exact⟨_,b1,fun e=>⟨gR ok (b2 e).1,(b2 e).2⟩⟩
theorem OH (x:dX) (ok:ft 1048576 x) (id:Int):Tt (fun y=>Kp x y.1) (lw x id):=by unfold lw;rw[(gY x ok).1,ae];refine .bind (Rj x ok id) fun v hv=> ?_;rw[ef];refine .br (fun e=> ?_) fun _=> .ret (.self ok);obtain⟨vc,hid⟩:=hv e;refine .srv ok vc hid fun s _ _ _=> .br (fun _=> .ret (.self ok)) fun _=> .srv ok vc hid fun t _ _ _=> ?_;rw[ef];exact .br (fun _=> .at vc.len hid fun u _ hu=> .ret ((Kp.self ok).set (s:=⟨u.up,u.intact,2,u.epoch,u.config,u.first,u.log,u.commit,u.learned⟩) (ok.1.2 u hu) _)) fun _=> .ret (.self ok)
theorem Kd (x:dX) (ok:ft 1048576 x) (id:Int):Tt (fun y=>Kp x y.1) (jW x id):=by
 unfold jW;rw[(gY x ok).1,ae];refine .bind (Rj x ok id) fun v hv=> ?_;rw[ef];refine .br (fun e=> ?_) fun _=> .ret (.self ok);obtain⟨vc,hid⟩:=hv e;refine .srv ok vc hid fun s _ _ _=> .br (fun _=> .ret (.self ok)) fun _=> .srv ok vc hid fun t _ _ _=> ?_;rw[ef];refine .br (fun _=> .srv ok vc hid fun s _ s2 _=> .bind (Q:=T1) ?_ fun _ _=> .br (fun _=> .ret (.self ok)) fun _=> .bind (.count (B:=jV) (E:=Sum.elim (fun e=> ∃n:Int,e=((id,(),n,(),()),(fc x,fc x,()),x.servers,x.sides,x.master.configs,x.places,())) fun e=>e=((id,(),(),(),()),(fz,fc x,()),x.servers,x.sides,x.master.configs,x.places,())) x.servers.length (fun k (_:Unit)=>((id,(),(),(),(),(k:Int),()),(fx x,fz,fc x,Uy s,()),x.servers,x.sides,x.master.configs,x.places,())) (fun _ _=>True) (fun _ _=> .end (aR _) (.ret rfl)) (fun k _ hk _=> ?_) () trivial) fun e he=> ?_) fun _=> .ret (.self ok)
 ·unfold kE;exact .bind (Bu _ (eS s2.2.2)) fun _ _=> .ret trivial
 ·have sw:=ec (eS ok.1.1) hk;refine .go (aE.2 hk) ?_;rw[show lE _=_ from uB s.config (eG s2.1),ae,ef];refine .br (fun _=> .ret rfl) fun _=> .ip (ax k) (.get (tn hk) fun t _ ht=> ?_);have ht:=ok.1.2 t ht;rw[show im _ _=_ from (gM t.config s.config (eG ht.1)).1,ae];refine .br (fun _=> .ip (ax k) (.get (tn hk) fun u _ hu=> .bind (Q:=T1) ?_ fun _ _=> .br (fun _=> .ret ⟨_,rfl⟩) fun _=> .ret ⟨(),by rw[sw],trivial⟩)) fun _=> .ret ⟨(),by rw[sw],trivial⟩;unfold kE;exact .bind (Bu _ (eS (ok.1.2 u hu).2.1)) fun _ _=> .ret trivial
 cases e with
 |inl e=>obtain⟨n,rfl⟩:=he;exact .ret (.self ok)
 |inr e=>obtain rfl:=he;exact .at vc.len hid fun u _ hu=> .ret ((Kp.self ok).set (s:=⟨u.up,u.intact,1,u.epoch,u.config,u.first,u.log,u.commit,u.learned⟩) (ok.1.2 u hu) _)
theorem OI (x:dX) (ok:ft 1048576 x):Tt T1 (kF x):=by
 obtain⟨c,b,c1,c2,c3⟩:=Kb x ok;unfold kF;rw[c1,ae];refine .bind (qo x ok) fun v hv=> ?_;rw[ef];refine .br (fun h=> ?_) fun _=> .ret trivial;have vc:=hv h;rw[ef];refine .br (fun hb=> ?_) fun _=> .ret trivial;obtain⟨_,_,_,_,hp,_⟩:=c3 vc;have hp:=(hp hb).2;refine .srv ok vc hp fun s _ s2 _=> ?_;obtain⟨d,d1,_⟩:=rY s c.primary s2;rw[d1,ae,ef];refine .br (fun _=> .srv ok vc hp fun t _ _ _=> ?_) fun _=> .ret trivial;rw[ef];refine .br (fun _=> .bind (qa c c2) fun m hm=> .bind (.count (B:=kY) (E:=fun _=>True) m.1.length (fun k (_:Unit)=>(((),(),(),(k:Int),()),(fx x,(c.epoch,c.primary,(),(),()),()),m.1,c.replicas,c.witnesses,())) (fun _ _=>True) (fun _ _=> .end (aR _) (.ret trivial)) (fun k _ hk _=> .go (aE.2 hk) (.ip ⟨ax k,aE.2 hk⟩ (.get (tn hk) fun z _ hz=> .bind (OA ok vc hp (hm.2 z hz)) fun y _=> ?_))) () trivial) fun e _=> ?_) fun _=> .ret trivial
 ·rw[ef];exact .br (fun _=> .ret ⟨(),by rw[ec (by have:=hm.1; unfold maxLen; omega) hk],trivial⟩) fun _=> .ret trivial
 ·cases e<;>exact .ret trivial
theorem Lh (x:dX) (ok:ft 1048576 x):Tt T1 (nM x):=by unfold nM;exact .bind (OI x ok) fun _ _=> .ret trivial
section
variable {l:List eO} (hl:l.length<=maxLen) (hv:fO l=some (true,()))
include hl hv
theorem Sv (m:List Int) (hm:sa m):Tt (fun y=>y.1.length<=5) (tI l m):=by have h5:=z9 hl hv;have ml:=hm.len;unfold tI;refine .bind (.count (B:=sB) (E:=fun e=>e.2.2.1.length<=5) m.length (fun k (b:List Int)=>((l,m,(),(k:Int),()),(),b,())) (fun k b=>b.length<=k/\SS b) (fun b hb=> .end (aR _) (.ret (aO hb.1 ml))) (fun k b hk hb=> ?_) [] ⟨aq _,List.Pairwise.nil⟩) fun y hy=> .ret hy;refine .go (aE.2 hk) ?_;dsimp only;rw[hv,ae,(wD hm).1,ae];refine .br (fun _=> .br (fun _=> .ip (ax k) (.get (tn hk) fun z _ hz=> .ip (o0 hm z hz).1 (.get (by have:=o0 hm z hz; omega) fun p _ _=> ?_))) (fun h=>by cases h)) (fun h=>by cases h);obtain⟨r,r1,r2,_,r4,_⟩:=Qw b p.rack (by omega) hb.2;rw[r1,ae];exact .ret ⟨r,by rw[ec (by unfold maxLen; omega) hk],by omega,r2⟩
theorem TP (i:Int):Tt T1 (tJ l i):=by have h5:=z9 hl hv;unfold tJ;rw[hv,ae,gF,ae];refine .br (fun _=> .br (fun h=> ?_) fun _=> .ret trivial) fun _=> .ret trivial;have h:=eL.1 h;exact .ip h.1 (.get (by omega) fun _ _ _=> .ip h.1 (.get (by omega) fun _ _ _=> .ret trivial))
theorem QI (r:List Int) (hr:r.length<=5) {a b:Int} (ha:0<=a/\a<5) (hb:0<=b/\b<5):Tt T1 (rC l r a b):=by
 have h5:=z9 hl hv;have rm:r.length<=maxLen:=by unfold maxLen; omega
 unfold rC;refine .ip ha.1 (.get (by omega) fun p _ _=> ?_);rw[(fm r p.rack rm).1,ae];refine .ip hb.1 (.get (by omega) fun q _ _=> ?_);rw[(fm r q.rack rm).1,ae,ef];exact .br (fun _=> .ip ha.1 (.get (by omega) fun _ _ _=> .ip hb.1 (.get (by omega) fun _ _ _=> .ret trivial))) fun _=> .ret trivial
theorem OJ (m d:List Int) (hm:sa m) (hd:d.length<=maxLen):Tt (fun y=>y.1= -1\/(0<=y.1/\y.1<5/\y.1∉m)) (nL l m d):=by
 have ml:m.length<=maxLen:=by have:=hm.len; unfold maxLen; omega
 unfold nL;refine .bind (Sv hl hv m hm) fun r hr=> .bind (.count (B:=pz) (E:=fun e=>e.1.1= -1\/(0<=e.1.1/\e.1.1<5/\e.1.1∉m)) 5 (fun k (b:Int)=>((l,m,d,b,(),(k:Int),()),(),r.1,())) (fun _ b=>b= -1\/(0<=b/\b<5/\b∉m)) (fun b hb=> .end (aR _) (.ret hb)) (fun k b hk hb=> ?_) (-1) (.inl rfl)) fun y hy=> .ret hy;have hkk:0<=(k:Int)/\(k:Int)<5:=⟨ax k,aE.2 hk⟩
 refine .go hkk.2 ?_;dsimp only;rw[(wD hm).1,ae,ec (n:=5) (by decide) hk];refine .br (fun _=> .bind (TP hl hv k) fun y _=> ?_) (fun h=>by cases h);rw[ef,(fm m k ml).1,(fm d k hd).1];refine .br (fun _=> .br (fun _=> .ret ⟨b,rfl,hb⟩) fun hn=> .br (fun _=> .ret ⟨b,rfl,hb⟩) fun _=> ?_) fun _=> .ret ⟨b,rfl,hb⟩;have hn: (k:Int)∉m:=of_decide_eq_false hn;refine .br (fun _=> .ret ⟨(k:Int),rfl, .inr ⟨hkk.1,hkk.2,hn⟩⟩) fun h0=> ?_;have h0: ¬b<0:=of_decide_eq_false h0;exact .bind (QI hl hv r.1 hr hkk (by omega)) fun _ _=> .br (fun _=> .ret ⟨(k:Int),rfl, .inr ⟨hkk.1,hkk.2,hn⟩⟩) fun _=> .ret ⟨b,rfl,hb⟩
omit hv in
theorem TQ (m a:List Int) (hm:sa m) (ha:sa a) (want:Int):Tt (fun y=>sa y.1) (mO l m a want):=by
 have am:a.length<=maxLen:=by have:=ha.len; unfold maxLen; omega
 obtain⟨v,v1,_⟩:=qT l hl;have nil:sa [] :=fun k hk=>by simp at hk
 unfold mO;rw[yX m a hm am,Du _ a Lc am,ae,ae,v1,ae,ef,(wD hm).1,(wD ha).1];refine .br (fun e=> .br (fun h=>by cases h) fun _=> .br (fun h=>by cases h) fun _=> ?_) fun _=> .ret nil;subst e;rw[gF,ae,ef];refine .br (fun _=> ?_) fun _=> .ret nil;have dl:=(Lc.filter fun x=> !decide (x∈a)).len;have dm: (([0,1,2,3,4]:List Int).filter fun x=> !decide (x∈a)).length<=maxLen:=by unfold maxLen; omega
 generalize ([0,1,2,3,4]:List Int).filter (fun x=> !decide (x∈a))=dead at dm;refine .bind (.loop (B:=ne) (E:=Sum.elim (fun e=>sa e.2.2.1) fun e=>sa e.2.2.1) (fun s=> ∃out:List Int,s=((l,want,(),(),()),(),out,dead,())/\sa out) (fun s=>(want-s.2.2.1.length).toNat) ?_ ⟨_,rfl,hm.filter _⟩) fun y hy=> ?_
 ·rintro _ ⟨out,rfl,ho⟩
  have ol:=ho.len;refine .br (fun c=> ?_) fun _=> .ret ho;have c: (out.length:Int)<want:=of_decide_eq_true c;refine .bind (OJ hl v1 out dead ho dm) fun n hn=> .br (fun _=> .ret ho) fun h=> ?_;have h: ¬n.1<0:=of_decide_eq_false h
  obtain⟨n0,n5,nm⟩:0<=n.1/\n.1<5/\n.1∉out:=by
   rcases hn with h'|h'
   ·omega
   ·exact h'
  obtain⟨r,r1,r2,r3,_,r5⟩:=Qw out n.1 (by omega) ho.pair;rw[show kr _ _=_ from r1,ae];refine .ret ⟨⟨r,rfl,v4 r2 fun y hy=>((r3 y).1 hy).elim (fun e=>by rw[e]; exact⟨n0,n5⟩) (o0 ho y)⟩,?_⟩;show (want-(r.length:Int)).toNat< (want-(out.length:Int)).toNat;have:=r5 nm;omega
 ·cases y with
  |inl y=>exact .ret hy
  |inr y=>exact .ret hy
end
theorem Rk (x:dX) (ok:ft 1048576 x) (want wit:Int):Tt (fun y=>iu 1048576 y.1) (mz x want wit):=by
 have zero:iu 1048576 ⟨0,0,[],[]⟩:=⟨aA _,aA _⟩
 obtain⟨v,v1,_⟩:=hU x ok;unfold mz;rw[v1,ae,ef];refine .br (fun e=> ?_) fun _=> .ret zero;subst e;have vc:=gR ok v1;rw[gF,ae,ef];refine .br (fun _=> ?_) fun _=> .ret zero;rw[gF,ae,ef];refine .br (fun _=> .br (fun _=> .ret zero) fun _=> ?_) fun _=> .ret zero;obtain⟨c,b,c1,c2,c3⟩:=Kb x ok;obtain⟨r5,w5,inr,_,_,rasc⟩:=c3 vc;have rm:c.replicas.length<=maxLen:=by unfold maxLen; omega
 rw[TB x ok v1,ae,c1,ae];have up:=Lb (Gw x) (n:=5) (by omega);generalize yZ (Gw x) 5=u at up;have um:u.length<=maxLen:=by have:=up.len; unfold maxLen; omega
 refine .bind (.count (B:=ov) (E:=fun e=> ∃have':List Int,sa have'/\e=((want,wit,(),(),(),(),(),()),(fx x,(0,0,(),(),()),(c.epoch,c.primary,(),(),()),()),u,have',c.replicas,c.witnesses,())) c.replicas.length (fun k (b:List Int)=>((want,wit,(),(),(),(),(),(k:Int),()),(fx x,(0,0,(),(),()),(c.epoch,c.primary,(),(),()),()),u,b,c.replicas,c.witnesses,())) (fun k b=>b.Sublist (c.replicas.take k)) (fun b hb=> .end (aR _) (.ret ⟨b,?_,rfl⟩)) (fun k b hk hb=> ?_) [] (List.nil_sublist _)) ?_
 ·rw[bG] at hb;exact v4 (rasc.pair.sublist hb) fun y hy=>inr y (hb.subset hy)
 ·have sw:=ec rm hk;have st:b.Sublist (c.replicas.take (k+1)):=hb.trans (List.take_sublist_take_left (ca k));refine .go (aE.2 hk) (.ip ⟨ax k,aE.2 hk⟩ (.get (tn hk) fun z _ hz=> ?_));rw[show fB _ _=_ from (fm u z um).1,ae];refine .br (fun _=> .ip ⟨ax k,aE.2 hk⟩ (.get (tn hk) fun z2 _ hz2=> .srv ok vc (inr z2 hz2) fun s _ _ _=> .br (fun _=> .ip ⟨ax k,aE.2 hk⟩ (.get (tn hk) fun z3 e3 _=> ?_)) fun _=> .ret ⟨b,by rw[sw],st⟩)) fun _=> .ret ⟨b,by rw[sw],st⟩;have e3:c.replicas[k]? =some z3:=e3
  have h2: (b++ [z3]).Sublist (c.replicas.take (k+1)):=by rw[bH,e3];exact hb.append (List.Sublist.refl _)
  have h3:=h2.length_le;rw[bf] at h3;exact .ip (by show (b++ [z3]).length*8<=2 ^ 40; omega) (.ret ⟨b++ [z3],by rw[sw],h2⟩)
 ·rintro _ ⟨hv,ha,rfl⟩
  refine .bind (TQ (eS ok.2.2.2) hv u ha up want) fun p hp=> .br (fun _=> .ret zero) fun h0=> ?_;have pl:=hp.len
  have p0:0<p.1.length:=by
   rcases bk p.1.length with h|h
   ·rw[h] at h0;cases h0
   ·exact h
  refine .ip ⟨bQ _,aE.2 p0⟩ (.get p0 fun q _ _=> ?_);rw[show fB _ _=_ from (fm p.1 c.primary (by unfold maxLen; omega)).1,ae];have gO: ∀w:List Int,w.length<=1-> ∀ (e p':Int) (d:Bool),Tt (fun y:ed×Bool×Unit=>iu 1048576 y.1) (some (⟨e,p',p.1,w⟩,d,())):=fun w hw _ _ _=> .ret ⟨by show p.1.length<=_; omega,by show w.length<=_; omega⟩
  extract_lets j43
  have h43: ∀p',Tt (fun y=>iu 1048576 y.1) (j43 p'):=fun p'=>by unfold j43;refine .br (fun _=> ?_) fun _=>gO [] (by decide) _ _ _;rw[show gl _ _=_ from Du _ u Lc um,ae];refine .bind (OJ (eS ok.2.2.2) vc.places p.1 _ hp ?_) fun _ _=> .br (fun _=>gO [_] (aq 1) _ _ _) fun _=>gO [] (by decide) _ _ _;have:=(Lc.filter fun x=> !decide (x∈u)).len;exact aO this (by unfold maxLen; omega)
  refine .br (fun _=> ?_) fun _=>h43 _;rw[show lE _=_ from uB c c2,ae];exact .br (fun _=>h43 _) fun _=>h43 _
theorem OK (x:dX) (ok:ft 1048576 x) (id t:Int):Tt (fun y=>Kp x y.1) (my x id t):=by obtain⟨n,n1,n2⟩:=II x ok id;unfold my;rw[(gY x ok).1,ae,n1,ae,ef];refine .br (fun e=> ?_) fun _=> .ret (.self ok);obtain⟨hv,h0,h5⟩:=n2 (eq_of_beq e);have vc:=gR ok hv;have s5:=p9 (eS ok.2.1) vc.sides;refine .srv ok vc ⟨h0,h5⟩ fun s _ s2 _=> ?_;obtain⟨b,b1,_⟩:=rY s id s2;rw[b1,ae,ef];refine .br (fun _=> .br (fun _=> .ret (.self ok)) fun _=> .ip h0 (.get (by omega) fun _ _ _=> ?_)) fun _=> .ret (.self ok);rw[ef];refine .br (fun _=> ?_) fun _=> .ret (.self ok);rw[ef];refine .br (fun _=> ?_) fun _=> .ret (.self ok);obtain⟨l,d,g1,_⟩:=J8 x.lease s.config.epoch id x.now t;rw[g1,ae,ef];exact .br (fun _=> .ret ⟨ok,rfl⟩) fun _=> .ret (.self ok)
theorem QJ (x:dX) (ok:ft 1048576 x) (want term:Int):Tt (fun y=>Kp x y.1) (mS x want term):=by unfold mS;rw[(gY x ok).1,ae];refine .bind (qo x ok) fun v _=> ?_;rw[ef];refine .br (fun _=> ?_) fun _=> .ret (.self ok);rw[gF,ae,ef];refine .br (fun _=> .bind (Lh x ok) fun _ _=> .br (fun _=> .ret (.self ok)) fun _=> .bind (Rk x ok want 0) fun n hn=> ?_) fun _=> .ret (.self ok);rw[ef];refine .br (fun _=> .bind (Ab x ok n.1 hn) fun y hy=> ?_) fun _=> .ret (.self ok);rw[ef];refine .br (fun _=> ?_) fun _=> .ret (.self ok);obtain⟨t,t1,_⟩:=IG x.lease;rw[t1,ae];refine .bind (Ri y.1 hy.1 _) fun z hz=> ?_;rw[ef];refine .br (fun _=> .bind (Aa z.1 hz.1) fun a ha=> ?_) fun _=> .ret (.self ok);rw[ef];exact .br (fun _=> .bind (OK a.1 ha.1 _ _) fun r hr=> .ret (hy.trans (hz.trans (ha.trans hr)))) fun _=> .ret (hy.trans (hz.trans ha))
theorem UB (x:dX) (ok:ft 1048576 x) (to:Int):Tt (fun y=>y.1=0->VC x) (pV x to):=by obtain⟨c,b,c1,c2,c3⟩:=Kb x ok;unfold pV;rw[c1,ae];refine .bind (qo x ok) fun v hv=> ?_;rw[ef];refine .br (fun h=> ?_) fun _=> .ret nofun;have vc:=hv h;have s5:=p9 (eS ok.2.1) vc.sides;rw[ef];refine .br (fun hb=> ?_) fun _=> .ret nofun;obtain⟨r5,_,_,_,hp,_⟩:=c3 vc;have hp:=(hp hb).2;rw[(fm c.replicas to (by unfold maxLen; omega)).1,ae,ef];refine .br (fun _=> .br (fun _=> .ret nofun) fun _=> ?_) fun _=> .ret nofun;rw[ef];refine .br (fun _=> .br (fun _=> .ret nofun) fun _=> .br (fun _=> .ret nofun) fun _=> .bind (Lh x ok) fun _ _=> ?_) fun _=> .ret nofun;rw[ef];refine .br (fun _=> .ip hp.1 (.get (by show c.primary.toNat<x.sides.length; omega) fun _ _ _=> ?_)) fun _=> .ret nofun;rw[ef];refine .br (fun _=> .br (fun _=> ?_) fun _=> .ret fun _=>vc) fun _=> .ret nofun;rw[ef];exact .br (fun _=> .ret fun _=>vc) fun _=> .ret nofun
theorem QK (x:dX) (ok:ft 1048576 x) (to:Int):Tt (fun y=>Kp x y.1) (lx x to):=by
 obtain⟨c,b,c1,c2,c3⟩:=Kb x ok;unfold lx;rw[(gY x ok).1,ae];refine .bind (UB x ok to) fun n hn=> ?_;rw[ef];refine .br (fun h=> ?_) fun _=> .ret (.self ok);obtain⟨r5,w5,_⟩:=c3 (hn (eq_of_beq h));rw[c1,ae];refine .bind (Lf x ok c.primary) fun y hy=> ?_;have hy':Kp x ⟨y.1.now,y.1.servers,y.1.sides,y.1.master,y.1.masterUp,⟨0,0,0⟩,y.1.places⟩:=⟨hy.1,hy.2⟩
 exact .bind (Ab _ hy'.1 ⟨_,to,c.replicas,c.witnesses⟩ ⟨by show c.replicas.length<=_; omega,by show c.witnesses.length<=_; omega⟩) fun z hz=> .bind (Aa z.1 hz.1) fun w hw=> .ret (hy'.trans (hz.trans hw))
end Go.Proofs.YtadabkgmdllbfabGreat.En
namespace Go.Proofs.YtadabkgmdllbfabGreat.En
open Go
theorem Tt.byte {α:Type} {Q:α->Prop} {b:ByteArray} {i:Nat} {k:UInt8->Option α} (hi:i<b.size) (h: ∀x,Tt Q (k x)):Tt Q ((b[i]?).bind k):=by rw[getElem?_pos b i hi];exact h _
theorem Dx (b:Int): (Lm ((([b]:List Int).drop 0).take ([b]:List Int).length)).size=1:=rfl
theorem li (n:Int) (h:n.natAbs<=1000):Tt (fun y=>y.1.size<=1001) (iz n):=by
 unfold iz;refine .br (fun _=> .ret (by decide)) fun _=> .bind (.loop (B:=pD) (E:=fun e=>e.1.1.size<=1000) (fun s=>s.1.2.1.size+s.1.1.natAbs<=1000) (fun s=>s.1.1.natAbs) ?_ (by simpa using h)) fun y hy=> .br (fun _=> .ip ?_ (.ret ?_)) fun _=> .ret (aO hy (by omega))
 ·rintro⟨⟨n,acc,neg,_⟩,_,_⟩ hs
  have hs:acc.size+n.natAbs<=1000:=hs;refine .br (fun h0=> ?_) fun _=> .ret (by show acc.size<=1000; omega);have h0:n≠0:=fun e=>by rw[e] at h0; cases h0
  have ha: (Int.tdiv n 10).natAbs=n.natAbs / 10:=Int.natAbs_tdiv n 10;have hw:IntKind.wrap .i64 (Int.tdiv n 10)=Int.tdiv n 10:=ff (by omega) (by omega);dsimp only;rw[hw];refine .br (fun _=> .ip ⟨dT,aq _⟩ (.ip (by rw[Dx]; omega) (.ret ⟨?_,?_⟩))) fun _=> .ip ⟨dT,aq _⟩ (.ip (by rw[Dx]; omega) (.ret ⟨?_,?_⟩))
  all_goals first
   | (show (_++acc).size+(Int.tdiv n 10).natAbs<=1000; rw[ByteArray.size_append,Dx]; omega)
   | (show (Int.tdiv n 10).natAbs<n.natAbs; omega)
 ·show (⟨⟨[45]⟩⟩:ByteArray).size+y.1.1.size<=2 ^ 40;have : (⟨⟨[45]⟩⟩:ByteArray).size=1:=rfl;omega
 ·show ((⟨⟨[45]⟩⟩:ByteArray)++y.1.1).size<=1001;have : (⟨⟨[45]⟩⟩:ByteArray).size=1:=rfl;rw[ByteArray.size_append];omega
theorem Sw {o:Op} (h:Si o=true): (0<=o.client/\o.client<=2)/\(1<=o.seq/\o.seq<=99)/\(0<=o.object/\o.object<=2)/\(0<=o.value/\o.value<=9)/\(o.kind≠1->0<=o.old/\o.old<=9):=by
 obtain⟨h1,h2,h4⟩:=Sj h;have h3:=Ld (show fC o=some (true,()) by rw[uC,h]);refine⟨eL.1 h1,eL.1 h2,h3,eL.1 h4,fun hk=> ?_⟩;have h0:fC o=some (true,()):=by rw[uC,h]
 unfold fC at h0;simp only[gF,ae,h1,h2,h4,eL.2 h3,bC,eJ,beq_eq_false_iff_ne.2 hk] at h0;cases hk2: (o.kind==2) with
 |false=>rw[hk2] at h0; cases h0
 |true=>rw[hk2] at h0;simp only[ev,af,an,and_true] at h0;exact eL.1 h0
theorem Mv (o:Op):Tt (fun y=>y.1.size<=10000) (rJ o):=by
 unfold rJ;rw[uC,ae,ef];refine .br (fun h=> ?_) fun _=> .ret (by decide);obtain⟨n1,n2,n3,n4,n5⟩:=Sw h;have e1: (⟨⟨[46]⟩⟩:ByteArray).size=1:=rfl;have e2: (⟨⟨[32]⟩⟩:ByteArray).size=1:=rfl;have e3: (⟨⟨[119,114,105,116,101,32]⟩⟩:ByteArray).size=6:=rfl;have e4: (⟨⟨[115,119,97,112,32]⟩⟩:ByteArray).size=5:=rfl;refine .bind (li _ (by omega)) fun a ha=> .ip (by omega) (.bind (li _ (by omega)) fun b hb=> .ip (by rw[ByteArray.size_append]; omega) (.ip (by simp only[ByteArray.size_append]; omega) (.br (fun _=> .ip (by simp only[ByteArray.size_append]; omega) (.bind (li _ (by omega)) fun c hc=> .ip (by simp only[ByteArray.size_append]; omega) (.ip (by simp only[ByteArray.size_append]; omega) (.bind (li _ (by omega)) fun d hd=> .ip (by simp only[ByteArray.size_append]; omega) (.ret ?_))))) fun hk=> ?_)))
 ·show ByteArray.size _<=_;simp only[ByteArray.size_append];omega
 ·have n5:=n5 fun e=>by rw[e] at hk; cases hk
  refine .ip (by simp only[ByteArray.size_append]; omega) (.bind (li _ (by omega)) fun c hc=> .ip (by simp only[ByteArray.size_append]; omega) (.ip (by simp only[ByteArray.size_append]; omega) (.bind (li _ (by omega)) fun d hd=> .ip (by simp only[ByteArray.size_append]; omega) (.ip (by simp only[ByteArray.size_append]; omega) (.bind (li _ (by omega)) fun e he=> .ip (by simp only[ByteArray.size_append]; omega) (.ret ?_))))));show ByteArray.size _<=_;simp only[ByteArray.size_append];omega
theorem Ke (l:List ek) (hl:l.length<=maxLen):Tt (fun y=>y.1.size<=1000000) (pU l):=by
 obtain⟨b,b1,b2⟩:=v5 hl;unfold pU;rw[b1,ae,ef];refine .br (fun e=> ?_) fun _=> .ret (by decide);have h16:=b2 e;subst e;have hlog:=((Oy l hl).1 b1).2;refine .br (fun _=> .ret (by decide)) fun _=> .bind (.count (B:=pE) (E:=fun e=>e.1.1.size<=1000000) l.length (fun k (b:ByteArray)=>((l,b,(k:Int),()),(),())) (fun k b=>b.size<=k*20000) (fun b hb=> .end (aR _) (.ret (by show b.size<=_; omega))) (fun k b hk hb=> ?_) ByteArray.empty (aA _)) fun y hy=> .ret hy;have sw:=ec hl hk;have e1: (⟨⟨[58]⟩⟩:ByteArray).size=1:=rfl;have e2: (⟨⟨[59]⟩⟩:ByteArray).size=1:=rfl;have hb:b.size<=k*20000:=hb;have hk2:k*20000<=16*20000:=bo _ (by omega);refine .go (aE.2 hk) (.br (fun _=> .ip (by rw[e2]; show b.size+1<=_; omega) (.ip (ax k) (.get (tn hk) fun e he _=> .bind (li _ ?_) fun y hy=> ?_))) fun _=> .ip (ax k) (.get (tn hk) fun e he _=> .bind (li _ ?_) fun y hy=> ?_))
 case refine_1|refine_3=>have:=hlog k hk;unfold QE at this;rw[show l[k]? =some e from he] at this;simp only[al] at this;have:=eL.1 this.1;omega
 all_goals
  dsimp only;rw[sw];refine .ip (by first |omega| (simp only[ByteArray.size_append]; omega)) (.ip (by simp only[ByteArray.size_append]; omega) (.ip (ax k) (.get (tn hk) fun e2 _ _=> .bind (Mv e2.op) fun z hz=> .ip (by simp only[ByteArray.size_append]; omega) (.ret ⟨_,rfl,?_⟩))));simp only[ByteArray.size_append];omega
theorem Mw (b:ByteArray) (hb:b.size<=1000000):Tt T1 (rK b):=by unfold rK;exact .bind (.count (B:=qK) (E:=fun _=>True) b.size (fun k (n:Int)=>((b,n,(k:Int),()),(),())) (fun _ _=>True) (fun _ _=> .end (aR _) (.ret trivial)) (fun k n hk _=> .go (aE.2 hk) (.ip (ax k) (.byte hk fun x=> .ret ⟨_,by rw[ec (n:=b.size) (by unfold maxLen; omega) hk],trivial⟩))) 5 trivial) fun _ _=> .ret trivial
theorem OL (l:List ek) (hl:l.length<=maxLen):Tt (fun y=>y.1.length<=l.length+1/\y.1.length<=17) (oF l):=by
 obtain⟨b,b1,b2⟩:=v5 hl;unfold oF;rw[b1,ae,ef];refine .br (fun e=> ?_) fun _=> .ret ⟨aA _,aA _⟩;have h16:=b2 e;refine .ip (by simp) (.bind (.count (B:=oE) (E:=fun e=>e.2.2.1.length<=l.length+1/\e.2.2.1.length<=17) l.length (fun k (b:Int×List Int)=>((l,(),b.1,(k:Int),()),(),b.2,())) (fun k b=>b.2.length=k+1) (fun b hb=> .end (aR _) (.ret (by show b.2.length<=_/\b.2.length<=_; omega))) (fun k b hk hb=> ?_) (11,[11]) rfl) fun y hy=> .ret hy);have sw:=ec hl hk;refine .go (aE.2 hk) ?_;dsimp only;rw[sw];refine .ip ⟨ax k,by omega,Int.ofNat_le.2 hk⟩ (.bind (Ke _ (aO (by rw[bf,bg]; omega) hl)) fun y hy=> .bind (Mw y.1 hy) fun z _=> .ip ?_ (.ret ⟨(_,_),rfl,?_⟩))
 ·rw[az,aB,hb];omega
 ·rw[az,aB,hb]
theorem Li (l:List ek) (k:Int) (hl:l.length<=maxLen):Tt (fun y=>y.1≠ -1->0<=k/\k<=(l.length:Int)) (pk l k):=by unfold pk;refine .bind (OL l hl) fun y hy=> ?_;rw[ff (n:=(y.1.length:Int)-1) (by omega) (by omega),gF,ae,ef];refine .br (fun h=> ?_) fun _=> .ret fun h=>absurd rfl h;have h:=eL.1 h;exact .ip (by omega) (.get (by omega) fun _ _ _=> .ret fun _=>by omega)
theorem Sx (x:dX) (ok:ft 1048576 x) (a b:Int):Tt (fun y=>y.1=true->VC x/\(0<=a/\a<5)/\(0<=b/\b<5)) (pT x a b):=by
 unfold pT;refine .bind (qo x ok) fun v hv=> ?_;rw[ef];refine .br (fun h=> ?_) fun _=> .ret nofun;have vc:=hv h;have h5:=p9 (eS ok.2.1) vc.sides
 have side:Tt (fun y:Bool×Unit=>y.1=true->(0<=a/\a<5)/\(0<=b/\b<5)) (eY x.sides a b):=by unfold eY;simp only[vc.sides,gF,ae,ev];refine .br (fun ha=> .br (fun hb=> ?_) fun _=> .ret nofun) fun _=> .ret nofun;have ha:=eL.1 ha;have hb:=eL.1 hb;exact .ip ha.1 (.get (by omega) fun _ _ _=> .ip hb.1 (.get (by omega) fun _ _ _=> .ret fun _=>by omega))
 refine .bind side fun y hy=> ?_;rw[ef];refine .br (fun h=> ?_) fun _=> .ret nofun;obtain⟨ha,hb⟩:=hy h;refine .br (fun _=> .ret nofun) fun _=> .srv ok vc ha fun s _ s2 _=> ?_;obtain⟨n,n1,_⟩:=sZ s.config a (eG s2.1);obtain⟨m,m1,_⟩:=sZ s.config b (eG s2.1);rw[n1,ae,m1];have good: ∀d:Bool,Tt (fun y:Bool×Unit=>y.1=true->VC x/\(0<=a/\a<5)/\(0<=b/\b<5)) (some (d,())):=fun d=> .ret fun _=>⟨vc,ha,hb⟩
 exact .br (fun _=> .srv ok vc hb fun _ _ _ _=> .br (fun _=> .br (fun _=> .br (fun _=>good _) fun _=>good _) fun _=> .br (fun _=> .br (fun _=>good _) fun _=>good _) fun _=>good _) fun _=>good _) fun _=>good _
theorem TR (x:dX) (ok:ft 1048576 x) (a b:Int):Tt (fun y=>0<=y.1->VC x/\(0<=a/\a<5)/\(0<=b/\b<5)/\ ∃s l,x.servers[a.toNat]? =some s/\ga s=some (l,())/\l.length<=16/\y.1<=(l.length:Int)) (mQ x a b):=by
 unfold mQ;refine .bind (Sx x ok a b) fun v hv=> ?_;rw[ef];refine .br (fun h=> ?_) fun _=> .ret fun h=>absurd h (by decide);obtain⟨vc,ha,hb⟩:=hv h;refine .srv ok vc ha fun s s1 s2 s3=> ?_;obtain⟨⟨l,_⟩,l1,l2⟩:=x0 s s2 (GB s2 s3);have l2:l.length<=16:=l2;rw[l1,ae];refine .srv ok vc hb fun t _ t2 _=> .srv ok vc hb fun u _ u2 _=> .bind (Q:=T1) ?_ fun d _=> .bind (Q:=fun y=>y.1=true->(t.learned.length:Int)<=(l.length:Int)) ?_ fun p hp=> ?_
 ·unfold nh;exact .bind (Li _ _ (eS u2.2.2)) fun _ _=> .ret trivial
 ·unfold oG;refine .br (fun hd=> .bind (Li l _ (by unfold maxLen; omega)) fun y hy=> .ret fun e=> ?_) fun _=> .ret nofun;have hd:d.1≥0:=of_decide_eq_true hd;have e:=eq_of_beq e;exact (hy (by omega)).2
 ·have tl:=t2.2.2;rw[ef];refine .br (fun e=> .ret fun _=>⟨vc,ha,hb,s,l,s1,l1,l2,?_⟩) fun _=> .ret fun _=>⟨vc,ha,hb,s,l,s1,l1,l2,?_⟩
  ·have:=hp e;show IntKind.wrap .i64 ((l.length:Int)-(t.learned.length:Int))<=_;rw[ff (by omega) (by omega)];omega
  ·show IntKind.wrap .i64 ((l.length:Int)-0)<=_;rw[ff (by omega) (by omega)];omega
theorem Sy (x:dX) (ok:ft 1048576 x) (a b n:Int):Tt (fun y=>Kp x y.1) (mR x a b n):=by
 unfold mR;rw[(gY x ok).1,ae];refine .bind (TR x ok a b) fun y hy=> .br (fun _=> .ret (.self ok)) fun h=> ?_;have h: ¬y.1<0:=of_decide_eq_false h;obtain⟨vc,ha,hb,s,l,s1,l1,l2,le⟩:=hy (by omega);rw[gF,ae,ef];refine .br (fun w=> .ip ha.1 ?_) fun _=> .ret (.self ok);have w:=eL.1 w;rw[s1,ae,l1,ae];dsimp only;have hm: (if n<y.1 then n else y.1)<=y.1/\0<=(if n<y.1 then n else y.1):=by split<;>omega
 generalize (if n<y.1 then n else y.1)=m at hm;rw[ff (n:=(l.length:Int)-y.1) (by omega) (by omega),ff (n:=(l.length:Int)-y.1+m) (by omega) (by omega)]
 have hl: ((l.drop (0+(0:Int).toNat)).take (((l.length:Int)-y.1+m).toNat-(0:Int).toNat)).length<=1048576:=by rw[bf,bg];omega
 refine .ip (by omega) (.ip (by omega) ?_);rw[xe hl,ae];exact .at vc.len hb fun u _ hu=> .ret ((Kp.self ok).set (s:=⟨u.up,u.intact,u.version,u.epoch,u.config,u.first,u.log,u.commit,(l.drop (0+(0:Int).toNat)).take (((l.length:Int)-y.1+m).toNat-(0:Int).toNat)⟩) ⟨(ok.1.2 u hu).1,(ok.1.2 u hu).2.1,hl⟩ _)
theorem OM {x y:dX} {n:Int} {r:Option (dX×Int×Unit)} (h:r=some (y,n,())/\ft 1048576 y/\y.servers.length=x.servers.length):Tt (fun z=>Kp x z.1) r:=⟨_,h.1,h.2⟩
theorem TT (x:dX) (ok:ft 1048576 x) (e:fM):Tt (fun y=>Kp x y.1) (tQ x e):=by obtain⟨_,_,c1⟩:=So x ok e.server;obtain⟨_,_,c2⟩:=OB x ok e.server;obtain⟨_,_,c3⟩:=TG x ok e.server;obtain⟨_,_,c4⟩:=TH x ok e.server e.n;obtain⟨_,_,c5⟩:=OC x ok e.n;unfold tQ;refine .br (fun _=> .bind (OK x ok _ _) fun y hy=> .ret hy) fun _=> .br (fun _=> .bind (Rk x ok _ _) fun n hn=> ?_) fun _=> .br (fun _=> .bind (Aa x ok) fun y hy=> .ret hy) fun _=> .br (fun _=> .bind (OM c1) fun y hy=> .ret hy) fun _=> .br (fun _=> .bind (OM c2) fun y hy=> .ret hy) fun _=> .br (fun _=> .bind (OM c3) fun y hy=> .ret hy) fun _=> .br (fun _=> .bind (OM c4) fun y hy=> .ret hy) fun _=> .br (fun _=> .bind (OM c5) fun y hy=> .ret hy) fun _=> .br (fun _=> .bind (Ri x ok _) fun y hy=> .ret hy) fun _=> .br (fun _=> .bind (Sy x ok _ _ _) fun y hy=> .br (fun _=> .ret hy) fun _=> .ret hy) fun _=> .br (fun _=> .bind (OH x ok _) fun y hy=> .ret hy) fun _=> .br (fun _=> .bind (Kd x ok _) fun y hy=> .ret hy) fun _=> .br (fun _=> .bind (QK x ok _) fun y hy=> .ret hy) fun _=> .bind (QJ x ok _ _) fun y hy=> .ret hy;rw[ef];refine .br (fun _=> .bind (Ab x ok _ hn) fun y hy=> .ret hy) fun _=> ?_;rw[(gY x ok).1];exact .ret (.self ok)
theorem TU (k:Int):Tt T1 (tB k):=by
 unfold tB
 repeat first |exact .ret trivial|refine .br (fun _=> ?_) fun _=> ?_
theorem OO (e:fM):Tt T1 (l5 e):=by
 unfold l5;simp only[gF,ae,uC];refine .br (fun _=> .ret trivial) fun _=> .br (fun _=> .ret trivial) fun _=> .br (fun _=> .ret trivial) fun _=> .br (fun _=> .ret trivial) fun _=> .bind (TU _) fun _ _=> ?_
 repeat first |exact .ret trivial|refine .br (fun _=> ?_) fun _=> ?_
theorem Mx (x:dX) (ok:ft 1048576 x) (e:fM):Tt (fun y=>Kp x y.1) (rM x e):=by unfold rM;rw[(gY x ok).1];refine .bind (qo x ok) fun _ _=> .br (fun _=> .ret (Kp.self ok)) fun _=> .bind (OO e) fun _ _=> .br (fun _=> .ret (Kp.self ok)) fun _=> .br (fun _=> .bind (QG x ok _ _) fun y hy=> .ret hy) fun _=> .br (fun _=> ?_) fun _=> .bind (TT x ok e) fun y hy=> .ret hy;exact .bind (Q:=fun y=>Kp x y.1) ⟨_,rfl,Kp.self ok⟩ fun y hy=> .bind (Ka x ok _ _) fun _ _=> .ret hy
theorem Kf (x:dX) (ok:ft 1048576 x) (l:List fM) (hl:l.length<=1048576):Tt (fun y=>Kp x y.1/\y.2.1.length<=l.length) (pW x l):=by
 have lm:=eS hl;unfold pW;rw[(gY x ok).1,ae];refine .bind (.count (B:=pF) (E:=fun e=> ∃ (c:dX) (r:List kO),Kp x c/\r.length<=l.length/\e=(((),(),(),()),(fz,fc c,()),r,c.servers,c.sides,c.master.configs,c.places,())) l.length (fun k (b:dX×List kO)=>((l,(),(),(),(k:Int),()),(fz,fc b.1,()),b.2,b.1.servers,b.1.sides,b.1.master.configs,b.1.places,())) (fun k b=>Kp x b.1/\b.2.length<=k) (fun b hb=> .end (aR _) (.ret ⟨b.1,b.2,hb.1,hb.2,rfl⟩)) (fun k b hk hb=> .go (aE.2 hk) (.br (fun _=> .ip (ax k) (.get (tn hk) fun e _ _=> .bind (Mx b.1 hb.1.1 e) fun y hy=> .ip ?_ (.ret ⟨(y.1,b.2++ [y.2.1]),by rw[ec lm hk],hb.1.trans hy,?_⟩))) fun _=> .ret ⟨b.1,b.2,hb.1,by omega,rfl⟩)) (x,[]) ⟨.self ok,aq _⟩) ?_
 ·show (b.2++ [y.2.1]).length*32<=2 ^ 40;rw[az,aB];omega
 ·rw[az,aB];omega
 ·rintro _ ⟨c,r,hc,hr,rfl⟩
  exact .ret ⟨hc,hr⟩
end Go.Proofs.YtadabkgmdllbfabGreat.En
namespace Go.Proofs.YtadabkgmdllbfabGreat.En
open Go
section
variable [dY]
theorem Tt.dn {α β:Type} {Q:α->Prop} {Q':β->Prop} {r:Option (List gE×α)} {k:List gE×α->Option β} (h:Dn Q r) (hk: ∀c a,gb c->Q a->Tt Q' (k ([c],a))):Tt Q' (r.bind k):=by obtain⟨c,a,rfl,h1,h2⟩:=h;exact hk c a h1 h2
theorem Dn.tt {α β:Type} {Q:α->Prop} {Q':β->Prop} {r:Option α} {k:α->Option (List gE×β)} (h:Tt Q r) (hk: ∀a,Q a->Dn Q' (k a)):Dn Q' (r.bind k):=by obtain⟨a,rfl,h⟩:=h;exact hk a h
theorem OP {α:Type} {Q:α->Prop} {r:Option (List gE×α)} (h:Tt (fun y=> ∃c,y.1= [c] /\gb c/\Q y.2) r):Dn Q r:=by obtain⟨⟨_,a⟩,rfl,c,rfl,h1,h2⟩:=h;exact⟨c,a,rfl,h1,h2⟩
theorem OQ {c:gE} (h:gb c):Dn (fun y:List Int×Unit=>sa y.1) (pX [c]):=by
 refine OP ?_;unfold pX;refine .bind (.count (B:=uu) (E:=fun e=> ∃c,e.2.2.1= [c] /\gb c/\sa e.2.2.2.1) 5 (fun k (b:gE×List Int)=>(((),(),(k:Int),()),(),[b.1],b.2,())) (fun k b=>gb b.1/\b.2.length<=k/\SS b.2/\ ∀y∈b.2,0<=y/\y< (k:Int)) (fun b hb=> .end (aR _) (.ret ⟨b.1,rfl,hb.1,v4 hb.2.2.1 hb.2.2.2⟩)) (fun k b hk hb=> ?_) (c,[]) ⟨h,aq _,List.Pairwise.nil,nofun⟩) fun y hy=> .ret hy;obtain⟨h1,h2,h3,h4⟩:=hb;have sw:=ec (n:=5) (by decide) hk;have stay: ∀y∈b.2,0<=y/\y< ((k+1:Nat):Int):=fun y hy=>by have:=h4 y hy; omega
 refine .go (show (k:Int)<5 by omega) (.dn (lg h1 2) fun c1 _ hc _=> .ip rfl (.br (fun _=> .ip (by show (b.2++ [(k:Int)]).length*8<=2 ^ 40; rw[az,aB]; omega) (.ret ⟨(c1,b.2++ [(k:Int)]),by rw[sw],hc,by rw[az,aB]; omega,?_,fun y hy=> ?_⟩)) fun _=> .ret ⟨(c1,b.2),by rw[sw],hc,cj h2,h3,stay⟩))
 ·exact ci.2 ⟨h3,cH _ _,fun y hy z hz=>by rw[aD.1 hz]; exact (h4 y hy).2⟩
 ·rcases aY.1 hy with hy|hy
  ·exact stay y hy
  ·rw[aD.1 hy];omega
omit [dY] in
theorem OS {l:List eO} (h5:l.length=5) (h: ∀p∈l,(0<=p.rack/\p.rack<=9)/\(0<=p.capacity/\p.capacity<=9)/\0<=p.load/\p.load<=99):fO l=some (true,()):=by
 have lm:l.length<=maxLen:=by unfold maxLen; omega
 have gO:Tt (fun y:Bool×Unit=>y.1=true) (fO l):=by
  unfold fO;refine .bind (.count (B:=kb) (E:=Sum.elim (fun _=>False) fun e=>e.1.1=l) l.length (fun k (_:Unit)=>((l,(k:Int),()),(),())) (fun _ _=>True) (fun _ _=> .end (aR _) (.ret rfl)) (fun k _ hk _=> .go (aE.2 hk) (.ip (ax k) (.get (tn hk) fun p _ hp=> ?_))) () trivial) fun y hy=> ?_
  ·obtain⟨h1,_⟩:=h p hp;rw[gF,eL.2 h1,ae];refine .br (fun h=>by cases h) fun _=> .ip (ax k) (.get (tn hk) fun q _ hq=> ?_);obtain⟨_,h2,_⟩:=h q hq;rw[gF,eL.2 h2,ae];refine .br (fun h=>by cases h) fun _=> .ip (ax k) (.get (tn hk) fun r _ hr=> ?_);obtain⟨_,_,h3⟩:=h r hr;rw[gF,eL.2 h3,ae];exact .br (fun h=>by cases h) fun _=> .ret ⟨(),by rw[ec lm hk],trivial⟩
  ·cases y with
   |inl y=>exact hy.elim
   |inr y=>refine .ret ?_;show ((y.1.1.length:Int)==5)=true;rw[show y.1.1=l from hy,h5];rfl
 obtain⟨⟨b,_⟩,e,rfl⟩:=gO;exact e
theorem Lj {c:gE} (h:gb c):Dn (fun y:List eO×Unit=>y.1.length=5/\fO y.1=some (true,())) (o9 [c]):=by
 refine OP ?_;unfold o9;refine .bind (.count (B:=qC) (E:=fun e=> ∃c,e.2.2.1= [c] /\gb c/\e.2.2.2.1.length=5/\fO e.2.2.2.1=some (true,())) 5 (fun k (b:gE×List eO)=>(((),(),(k:Int),()),(),[b.1],b.2,())) (fun k b=>gb b.1/\b.2.length=k/\ ∀p∈b.2,(0<=p.rack/\p.rack<=9)/\(0<=p.capacity/\p.capacity<=9)/\0<=p.load/\p.load<=99) (fun b hb=> .end (aR _) (.ret ⟨b.1,rfl,hb.1,hb.2.1,OS hb.2.1 hb.2.2⟩)) (fun k b hk hb=> ?_) (c,[]) ⟨h,rfl,nofun⟩) fun y hy=> .ret hy;obtain⟨h1,h2,h3⟩:=hb;refine .go (show (k:Int)<5 by omega) (.dn (nj h1 (n:=4) (by omega)) fun c1 x g1 hx=> .ip rfl (.dn (nj g1 (n:=4) (by omega)) fun c2 y g2 hy=> .ip rfl (.dn (nj g2 (n:=4) (by omega)) fun c3 z g3 hz=> .ip rfl (.ip ?_ (.ret ⟨(c3,b.2++ [⟨x.1,1+y.1,z.1⟩]),?_,g3,by rw[az,aB,h2],fun p hp=> ?_⟩)))))
 ·rw[az,aB,show List.length _=k from h2];omega
 ·dsimp only;rw[ec (n:=5) (by decide) hk,ff (n:=1+y.1) (by omega) (by omega)]
 ·rcases aY.1 hp with hp|hp
  ·exact h3 p hp
  ·rw[aD.1 hp];show (0<=x.1/\x.1<=9)/\(0<=1+y.1/\1+y.1<=9)/\0<=z.1/\z.1<=99;omega
omit [dY] in
theorem Lk (v:Int):Tt (fun y=>fX 1048576 y.1) (nG v):=by
 unfold nG;rw[gF,ae];have ok: ∀v:Int,fX 1048576 ⟨true,true,v,0,⟨0,0,[],[]⟩,0,[],0,[]⟩:=fun _=>⟨⟨aA _,aA _⟩,aA _,aA _⟩
 exact .br (fun _=> .ret (ok _)) fun _=> .ret (ok _)
omit [dY] in
theorem Sz (l:List eO) (hl:l.length<=1048576):Tt (fun y=>ft 1048576 y.1/\(fO l=some (true,())->y.1.servers.length=5)) (of l):=by
 obtain⟨v,v1,_⟩:=qT l (eS hl);unfold of;rw[v1,ae,ef];refine .br (fun e=> .ip (by decide) (.ip ?_ (.bind (.count (B:=oe) (E:=fun e=> ∃S:List dZ,S.length=5/\(∀s∈S,fX 1048576 s)/\e=(((),(),()),(fz,(0,(),(),(),0,3,0,0,0,(),()),()),S,List.replicate (5:Int).toNat (0:Int),[] ++l,())) 5 (fun k (S:List dZ)=>(((),(),(k:Int),()),(fz,(0,(),(),(),0,3,0,0,0,(),()),()),S,List.replicate (5:Int).toNat (0:Int),[] ++l,())) (fun k S=>S.length=k/\ ∀s∈S,fX 1048576 s) (fun S hS=> .end (aR _) (.ret ⟨S,hS.1,hS.2,rfl⟩)) (fun k S hk hS=> .go (show (k:Int)<5 by omega) (.bind (Lk 1) fun s hs=> .ip ?_ (.ret ⟨S++ [s.1],by rw[ec (n:=5) (by decide) hk],by rw[az,aB,hS.1],fun t ht=> ?_⟩))) [] ⟨rfl,nofun⟩) ?_))) fun _=> .ret ⟨⟨⟨aA _,nofun⟩,aA _,⟨aA _,nofun⟩,aA _⟩,fun e=>by simp_all⟩
 ·rw[be];omega
 ·rw[az,aB,show List.length _=k from hS.1];omega
 ·exact (aY.1 ht).elim (hS.2 t) fun e=>by rw[aD.1 e]; exact hs
 ·rintro _ ⟨S,h5,hS,rfl⟩
  exact .ret ⟨⟨⟨by show S.length<=_; omega,hS⟩,by show (List.replicate (5:Int).toNat (0:Int)).length<=_; decide,⟨aA _,nofun⟩,hl⟩,fun _=>h5⟩
omit [dY] in
theorem OT {e p:Int} {R W:List Int} (he:1<=e/\e<=20) (hR:sa R) (hW:sa W) (hp:p∈R) (hd: ∀y∈R,y∉W):eA ⟨e,p,R,W⟩=some (true,()):=by have hr:=hR.len;have hw:=hW.len;unfold eA;simp only[gF,eL.2 he,ae,ev,(wD hR).1,(wD hW).1,(fm R p (by unfold maxLen; omega)).1,decide_eq_true hp,yX R W hR (by unfold maxLen; omega)];rw[List.filter_eq_nil_iff.2 fun y hy h=>hd y hy (of_decide_eq_true h)];rfl
theorem SA {c:gE} (h:gb c) (e:Int):Dn (fun y:ed×Unit=>y.1.epoch=e/\y.1.replicas.length<=5/\y.1.witnesses.length<=5/\(1<=e/\e<=20->eA y.1=some (true,()))) (nx [c] e):=by
 unfold nx;refine .bind (nj h (n:=5) (by omega)) fun c1 p h1 hp=> .iteP rfl (.bind (OQ h1) fun c2 l h2 hl=> .iteP rfl ?_);obtain⟨r,r1,r2,r3,_⟩:=Qw l.1 p.1 (by have:=hl.len; omega) hl.pair;rw[show kr _ _=_ from r1,ae]
 have gO: ∀R:List Int,sa R->p.1∈R->Dn (fun y:ed×Unit=>y.1.epoch=e/\y.1.replicas.length<=5/\y.1.witnesses.length<=5/\(1<=e/\e<=20->eA y.1=some (true,()))) ((gU [c2] 2).bind fun y5=>iteP (y5.1.length=([c2]:List gE).length) (br y5.2.1 ((pX y5.1).bind fun y6=>iteP (y6.1.length=y5.1.length) ((gl y6.2.1 R).bind fun y7=>br (decide ((y7.1.length:Int)>0)) (iteP (0<=(0:Int)/\(0:Int)<=(1:Int)/\(1:Int)<=((y7.1.length:Nat):Int)) (iteP ((0+(0:Int).toNat)=0/\((1:Int).toNat-(0:Int).toNat)<=y7.1.length) (some (y6.1,(⟨e,p.1,R,(y7.1.take ((1:Int).toNat-(0:Int).toNat))⟩:ed),())) (iteP ((0+(0:Int).toNat)+((1:Int).toNat-(0:Int).toNat)<=y7.1.length) (some (y6.1,(⟨e,p.1,R,((y7.1.drop (0+(0:Int).toNat)).take ((1:Int).toNat-(0:Int).toNat))⟩:ed),())) none)) none) (some (y6.1,(⟨e,p.1,R,([]:List Int)⟩:ed),()))) none) (some (y5.1,(⟨e,p.1,R,([]:List Int)⟩:ed),()))) none):=fun R hR hpR=>by
  have nil:sa [] :=fun k hk=>by simp at hk
  have rl:=hR.len;refine .bind (lg h2 2) fun c3 _ h3 _=> .iteP rfl (.br (fun _=> .bind (OQ h3) fun c4 w h4 hw=> .iteP rfl ?_) fun _=> .ret h3 ⟨rfl,rl,aA _,fun he=>OT he hR nil hpR fun _ _=>nofun⟩);rw[show gl _ _=_ from Du w.1 R hw (by unfold maxLen; omega),ae];have hf:=hw.filter fun x=> !decide (x∈R)
  have hn: ∀y∈R,y∉w.1.filter fun x=> !decide (x∈R):=fun y hy h=>by have:=(cO.1 h).2;simp[hy] at this
  have fl:=hf.len;generalize w.1.filter (fun x=> !decide (x∈R))=f at hf hn fl;refine .br (fun hpos=> ?_) fun _=> .ret h4 ⟨rfl,rl,aA _,fun he=>OT he hR nil hpR fun _ _=>nofun⟩;have hpos: (f.length:Int)>0:=of_decide_eq_true hpos;refine .iteP (by show (0:Int)<=0/\(0:Int)<=1/\(1:Int)<=(f.length:Int); omega) (.iteP (by show 0=0/\1<=f.length; omega) (.ret h4 ⟨rfl,rl,?_,fun he=>OT he hR ?_ hpR fun y hy h=>hn y hy (bW h)⟩))
  ·show (f.take _).length<=5;rw[bf];omega
  ·exact v4 (hf.pair.sublist (List.take_sublist _ _)) fun y hy=>o0 hf y (bW hy)
 have ra:sa r:=v4 r2 fun y hy=>((r3 y).1 hy).elim (fun e=>by rw[e]; exact hp) (o0 hl y);refine .br (fun _=>gO [p.1] (v4 (cH _ _) fun y hy=>by rw[aD.1 hy]; exact hp) (aD.2 rfl)) fun _=>gO r ra ((r3 _).2 (.inl rfl))
omit [dY] in
theorem SB {M:eh} (h:sb 1048576 M) (hl:M.configs.length<=1000) {c:ed} (hc:iu 1048576 c):sb 1048576 ⟨M.configs++ [c],M.activated⟩:=⟨by show (M.configs++ [c]).length<=_; rw[az,aB]; omega,fun d hd=>(aY.1 hd).elim (h.2 d) fun e=>by rw[aD.1 e]; exact hc⟩
theorem TV {c:gE} (h:gb c):Dn (fun y:List Int×Unit=>y.1.length<=6) (wz [c]):=by
 unfold wz;refine .bind (OQ h) fun c1 l h1 hl=> .iteP rfl (.bind (lg h1 _) fun c2 _ h2 _=> .iteP rfl (.br (fun _=> .bind (iX h2 (by simp)) fun c3 x h3 _=> .iteP rfl ?_) fun _=> .ret h2 ?_))
 ·have:=hl.len;refine .iteP ?_ (.ret h3 ?_)
  ·show (l.1++ [x.1]).length*8<=2 ^ 40;rw[az,aB];omega
  ·show (l.1++ [x.1]).length<=6;rw[az,aB];omega
 ·exact aO hl.len (by omega)
theorem OU {c:gE} (h:gb c):Dn (fun y:ed×Unit=>iu 1048576 y.1) (wA [c]):=by
 unfold wA;refine .bind (gX h _) fun c1 e h1 _=> .iteP rfl (.bind (SA h1 _) fun c2 g h2 hg=> .iteP rfl (.bind (gX h2 _) fun c3 x h3 _=> .iteP rfl ?_));obtain⟨_,g1,g2,_⟩:=hg;have ok:iu 1048576 g.1:=⟨by omega,by omega⟩
 refine .br (fun _=> .bind (iX h3 (by simp)) fun c4 _ h4 _=> .iteP rfl (.ret h4 ok)) fun _=> .br (fun _=> .bind (gX h3 _) fun c4 _ h4 _=> .iteP rfl (.ret h4 ok)) fun _=> .br (fun _=> .bind (TV h3) fun c4 l h4 hl=> .iteP rfl (.ret h4 ⟨by show l.1.length<=_; omega,ok.2⟩)) fun _=> .br (fun _=> .bind (TV h3) fun c4 l h4 hl=> .iteP rfl (.ret h4 ⟨ok.1,by show l.1.length<=_; omega⟩)) fun _=> .ret h3 ok
theorem UC {c:gE} (h:gb c):Dn (fun y:eh×Unit=>sb 1048576 y.1/\y.1.configs.length<=10) (vI [c]):=by
 unfold vI;refine .bind (nj h (n:=5) (by omega)) fun c1 n h1 hn=> .iteP rfl (OP (.bind (.loop (B:=uv) (E:=fun e=> ∃c,e.2.2.1= [c] /\gb c/\sb 1048576 ⟨e.2.2.2.1,e.2.1.2.1.2.1⟩/\e.2.2.2.1.length<=10) (fun s=> ∃ (c:gE) (M:eh) (k:Int),s=(((),(),(),k,()),(((),0,()),((),M.activated,()),()),[c],M.configs,())/\gb c/\sb 1048576 M/\0<=k/\M.configs.length+k.toNat<=10) (fun s=>s.1.2.2.2.1.toNat) ?_ ⟨c1,⟨[],0⟩,n.1,rfl,h1,⟨aA _,nofun⟩,hn.1,by show 0+n.1.toNat<=10; omega⟩) fun y hy=> .ret hy))
 rintro _ ⟨c,M,k,rfl,hc,hM,h0,hl⟩
 refine .br (fun hk=> ?_) fun _=> .ret ⟨c,rfl,hc,hM,by show M.configs.length<=10; omega⟩;have hk:k>0:=of_decide_eq_true hk;have hw:IntKind.wrap .i64 (k-1)=k-1:=ff (by omega) (by omega);refine .dn (SA hc _) fun c2 g h2 hg=> .ip rfl (.bind (AP M hM g.1 ⟨by omega,by omega⟩) fun m hm=> .dn (lg h2 _) fun c3 _ h3 _=> .ip rfl (.br (fun _=> .bind (Dw m.1 hm.1 _) fun a ha=> .ret ⟨⟨c3,a.1,k-1,by dsimp only; rw[hw],h3,ha.1,by omega,by omega⟩,?_⟩) fun _=> .ret ⟨⟨c3,m.1,k-1,by dsimp only; rw[hw],h3,hm.1,by omega,by omega⟩,?_⟩))
 all_goals
  show (IntKind.wrap .i64 (k-1)).toNat<k.toNat;rw[hw];omega
theorem UD {c:gE} (h:gb c):Dn (fun y:eh×Unit=>sb 1048576 y.1) (vJ [c]):=by unfold vJ;refine .bind (UC h) fun c1 m h1 hm=> .iteP rfl (.bind (gX h1 _) fun c2 _ h2 _=> .iteP rfl (.br (fun _=> .bind (iX h2 (by simp)) fun c3 _ h3 _=> .iteP rfl (.ret h3 hm.1)) fun _=> .br (fun _=> .bind (OU h2) fun c3 g h3 hg=> .iteP rfl (.iteP ?_ (.ret h3 (SB hm.1 (by omega) hg)))) fun _=> .ret h2 hm.1));show (m.1.configs++ [g.1]).length*64<=2 ^ 40;rw[az,aB];omega
omit [dY] in
theorem OV (c:ed) (h:iu maxLen c) (hv:eA c=some (true,())):Tt (fun y=>0<y.1.length/\y.1.length<=10) (fD c):=by unfold fD;rw[hv,ae];refine .br (fun h=>by cases h) fun _=> ?_;obtain⟨a1,a2,a3,_⟩:=oY h hv;have l1:=a1.len;have l2:=a2.len;obtain⟨r,r1,_,r4,r5⟩:=J2 c.replicas c.witnesses (by omega) (by omega);rw[r1];exact .ret ⟨List.length_pos_of_mem ((r4 c.primary).2 (.inl a3)),by show r.length<=10; omega⟩
omit [dY] in
theorem UE (l:List ek) (e:Int) (hl:l.length<=1048576):Tt (fun y=>y.1.length<=1048576) (vL l e):=by
 unfold vL;refine .bind (.count (B:=uw) (E:=fun y=> ∃k:Nat,k<=l.length/\y=((l,(k:Int),()),(),())) l.length (fun k (_:Unit)=>((l,e,(k:Int),()),(),())) (fun _ _=>True) (fun _ _=> .end (aR _) (.ret ⟨l.length,aq _,rfl⟩)) (fun k _ hk _=> .go (aE.2 hk) (.ip (ax k) (.get (tn hk) fun _ _ _=> .br (fun _=> .ret ⟨(),by rw[ec (eS hl) hk],trivial⟩) fun _=> .ret ⟨k,Nat.le_of_lt hk,rfl⟩))) () trivial) ?_
 rintro _ ⟨k,hk,rfl⟩
 have h2: ((l.drop (0:Int).toNat).take ((k:Int).toNat-(0:Int).toNat)).length<=1048576:=by rw[bf,bg];omega
 exact .ip ⟨bQ _,ax k,Int.ofNat_le.2 hk⟩ (.bind (Q:=fun y=>y.1.length<=1048576) ⟨_,xe h2,h2⟩ fun y hy=> .ret hy)
theorem QL {c:gE} (h:gb c):Dn (fun y:dZ×Int×Unit=>fX 1048576 y.1) (pY [c]):=by
 unfold pY;refine .bind (gX h _) fun c1 _ h1 _=> .iteP rfl (.tt (Lk _) fun s hs=> .bind (nj h1 (n:=3) (by omega)) fun c2 e h2 he=> .iteP rfl (.bind (SA h2 _) fun c3 g h3 hg=> .iteP rfl ?_));have hw:IntKind.wrap .i64 (1+e.1)=1+e.1:=ff (by omega) (by omega);obtain⟨g0,g1,g2,g3⟩:=hg;have g3:=g3 (by rw[hw]; omega);have okc:iu 1048576 g.1:=⟨by omega,by omega⟩
 refine .tt (OV g.1 (eG okc) g3) fun m hm=> .bind (nj h3 (n:=(m.1.length:Int)) (by omega)) fun c4 i h4 hi=> .iteP rfl (.iteP hi (.get (by show i.1.toNat<m.1.length; omega) fun z _=> .bind (lg h4 _) fun c5 _ h5 _=> .iteP rfl ?_))
 have fin: ∀ (c6:gE) (t:dZ),gb c6->fX 1048576 t-> ∀up:Bool,Dn (fun y:dZ×Int×Unit=>fX 1048576 y.1) ((gU [c6] 4).bind fun y46=>iteP (y46.1.length=([c6]:List gE).length) (br y46.2.1 ((ew y46.1 3).bind fun y47=>iteP (y47.1.length=y46.1.length) ((hO (⟨up,t.intact,t.version,t.epoch,t.config,t.first,t.log,t.commit,t.learned⟩:dZ) (IntKind.wrap .i64 (4+y47.2.1))).bind fun y48=>some (y47.1,y48.1,z,())) none) (some (y46.1,(⟨up,t.intact,t.version,t.epoch,t.config,t.first,t.log,t.commit,t.learned⟩:dZ),z,()))) none):=fun c6 t h6 ht up=>.bind (lg h6 _) fun c7 _ h7 _=> .iteP rfl (.br (fun _=> .bind (gX h7 _) fun c8 _ h8 _=> .iteP rfl (.tt (IK ⟨up,t.intact,t.version,t.epoch,t.config,t.first,t.log,t.commit,t.learned⟩ _ ht) fun u hu=> .ret h8 hu)) fun _=> .ret h7 ht)
 rw[ef];refine .br (fun _=> .bind (lg h5 _) fun c6 _ h6 _=> .iteP rfl (.br (fun _=>fin c6 s.1 h6 hs _) fun _=>fin c6 s.1 h6 hs _)) fun _=> .bind (Oo h5) fun c6 l h6 hl=> .iteP rfl (.tt (UE l.1 _ (by omega)) fun l2 hl2=> .tt (IL s.1 g.1 z l2.1 hs okc hl2) fun t ht=> .bind (lg h6 _) fun c7 _ h7 _=> .iteP rfl (.br (fun _=>fin c7 t.1 h7 ht _) fun _=>fin c7 t.1 h7 ht _))
theorem My {c:gE} (h:gb c):Dn (fun y:dZ×Int×Unit=>fX 1048576 y.1) (vM [c]):=by unfold vM;refine .bind (QL h) fun c1 s h1 hs=> .iteP rfl (.bind (gX h1 _) fun c2 _ h2 _=> .iteP rfl ?_);refine .br (fun _=> .bind (iX h2 (by simp)) fun c3 _ h3 _=> .iteP rfl (.ret h3 hs)) fun _=> .br (fun _=> .bind (iX h2 (by simp)) fun c3 _ h3 _=> .iteP rfl (.ret h3 hs)) fun _=> .br (fun _=> .bind (OU h2) fun c3 g h3 hg=> .iteP rfl (.ret h3 ⟨hg,hs.2⟩)) fun _=> .br (fun _=> .bind (iX h2 (by simp)) fun c3 _ h3 _=> .iteP rfl (.ret h3 hs)) fun _=> .br (fun _=> .bind (iX h2 (by simp)) fun c3 _ h3 _=> .iteP rfl (.ret h3 hs)) fun _=> .br (fun _=> .bind (gX h2 _) fun c3 _ h3 _=> .iteP rfl (.ret h3 hs)) fun _=> .br (fun _=> .bind (Mn h2) fun c3 l h3 hl=> .iteP rfl (.ret h3 ⟨hs.1,by show l.1.length<=_; omega,hs.2.2⟩)) fun _=> .ret h2 hs
theorem OW {c:gE} (h:gb c):Dn (fun y:List Int×Unit=>y.1.length<=5) (vH [c]):=by
 unfold vH;refine .bind (Om h) fun c1 l h1 hl=> .iteP rfl (.bind (gX h1 _) fun c2 _ h2 _=> .iteP rfl (.br (fun _=> ?_) fun _=> .br (fun _=> .bind (iX h2 (by simp)) fun c3 x h3 _=> .iteP rfl (.iteP ?_ (.get ?_ fun _ _=> .ret h3 ?_))) fun _=> .ret h2 (dI hl)))
 ·have hl:l.1.length=5:=hl;refine .iteP (by show (0:Int)<=1/\(1:Int)<=(l.1.length:Int)/\(l.1.length:Int)<=(l.1.length:Int); omega) ?_;rw[en,if_neg (by intro h; exact absurd h.1 (by decide))];refine .iteP (by show 0+(1:Int).toNat+((l.1.length:Int).toNat-(1:Int).toNat)<=l.1.length; omega) (.ret h2 ?_);show ((l.1.drop (0+(1:Int).toNat)).take ((l.1.length:Int).toNat-(1:Int).toNat)).length<=5;rw[bf,bg];omega
 ·have hl:l.1.length=5:=hl;show (0:Int)<=1/\(1:Int)< (l.1.length:Int);omega
 ·have hl:l.1.length=5:=hl;show (1:Int).toNat<l.1.length;omega
 ·show (l.1.set _ _).length<=5;rw[aZ];exact dI hl
theorem Mz {c:gE} (h:gb c):Dn (fun y:List eO×Unit=>y.1.length<=5) (yL [c]):=by
 unfold yL;refine .bind (Lj h) fun c1 l h1 hl=> .iteP rfl (.bind (gX h1 _) fun c2 _ h2 _=> .iteP rfl ?_);have hl:l.1.length=5:=hl.1;refine .br (fun _=> ?_) fun _=> .br (fun _=> .bind (iX h2 (by simp)) fun c3 x h3 _=> .iteP rfl (.iteP (by show (0:Int)<=0/\(0:Int)< (l.1.length:Int); omega) (.get (by show (0:Int).toNat<l.1.length; omega) fun _ _=> .ret h3 ?_))) fun _=> .br (fun _=> .bind (iX h2 (by simp)) fun c3 x h3 _=> .iteP rfl (.iteP (by show (0:Int)<=1/\(1:Int)< (l.1.length:Int); omega) (.get (by show (1:Int).toNat<l.1.length; omega) fun _ _=> .ret h3 ?_))) fun _=> .ret h2 (dI hl)
 ·refine .iteP (by show (0:Int)<=1/\(1:Int)<=(l.1.length:Int)/\(l.1.length:Int)<=(l.1.length:Int); omega) ?_;rw[en,if_neg (by intro h; exact absurd h.1 (by decide))];refine .iteP (by show 0+(1:Int).toNat+((l.1.length:Int).toNat-(1:Int).toNat)<=l.1.length; omega) (.ret h2 ?_);show ((l.1.drop (0+(1:Int).toNat)).take ((l.1.length:Int).toNat-(1:Int).toNat)).length<=5;rw[bf,bg];omega
 ·show (l.1.set _ _).length<=5;rw[aZ];omega
 ·show (l.1.set _ _).length<=5;rw[aZ];omega
theorem OX {c:gE} (h:gb c):Dn (fun y:dX×Unit=>ft 1048576 y.1/\y.1.servers.length=5) (oH [c]):=by unfold oH;refine .bind (Lj h) fun c1 l h1 hl=> .iteP rfl (.tt (Sz l.1 (by have:=hl.1; omega)) fun x hx=> .bind (Mm h1 (by omega) (by omega)) fun c2 e h2 he=> .iteP rfl (.tt (Kf x.1 hx.1 e.1 (by omega)) fun y hy=> .ret h2 ⟨hy.1.1,hy.1.2.trans (hx.2 hl.2)⟩))
theorem Kg {c:gE} (h:gb c):Dn (fun y:dX×Unit=>ft 1048576 y.1/\y.1.servers.length=5) (vN [c]):=by unfold vN;refine .bind (OX h) fun c1 x h1 hx=> .iteP rfl (.bind (gX h1 _) fun c2 _ h2 _=> .iteP rfl ?_);obtain⟨⟨x1,x2,x3,x4⟩,x5⟩:=hx;refine .br (fun _=> .bind (iX h2 (by simp)) fun c3 _ h3 _=> .iteP rfl (.ret h3 ⟨⟨x1,x2,x3,x4⟩,x5⟩)) fun _=> .br (fun _=> .bind (OW h2) fun c3 l h3 hl=> .iteP rfl (.ret h3 ⟨⟨x1,by show l.1.length<=_; omega,x3,x4⟩,x5⟩)) fun _=> .br (fun _=> .bind (UD h2) fun c3 m h3 hm=> .iteP rfl (.ret h3 ⟨⟨x1,x2,hm,x4⟩,x5⟩)) fun _=> .br (fun _=> .bind (iX h2 (by simp)) fun c3 _ h3 _=> .iteP rfl (.ret h3 ⟨⟨x1,x2,x3,x4⟩,x5⟩)) fun _=> .br (fun _=> .bind (Ok h2) fun c3 _ h3 _=> .iteP rfl (.ret h3 ⟨⟨x1,x2,x3,x4⟩,x5⟩)) fun _=> .br (fun _=> .bind (Mz h2) fun c3 l h3 hl=> .iteP rfl (.ret h3 ⟨⟨x1,x2,x3,by show l.1.length<=_; omega⟩,x5⟩)) fun _=> .br (fun _=> .bind (My h2) fun c3 s h3 hs=> .iteP rfl (.bind (nj h3 (n:=5) (by omega)) fun c4 i h4 hi=> .iteP rfl (.iteP (by show 0<=i.1/\i.1< (x.1.servers.length:Int); rw[x5]; exact hi) (.get (by show i.1.toNat<x.1.servers.length; omega) fun _ _=> .ret h4 ⟨⟨uD x1 hs _,x2,x3,x4⟩,by show (x.1.servers.set _ _).length=5; rw[aZ]; exact x5⟩)))) fun _=> .ret h2 ⟨⟨x1,x2,x3,x4⟩,x5⟩
omit [dY] in
end
end Go.Proofs.YtadabkgmdllbfabGreat.En
namespace Go.Proofs.YtadabkgmdllbfabGreat.En
open Go
theorem Tt.tru {r:Option (Bool×Unit)} (h:Tt (fun y=>y.1=true) r):r=some (true,()):=by obtain⟨⟨b,_⟩,e,rfl⟩:=h;exact e
theorem Tt.is {α:Type} {Q:α->Prop} {r:Option α} {a:α} (h:Tt Q r) (e:r=some a):Q a:=by obtain⟨b,h1,h2⟩:=h;rw[e] at h1;cases h1;exact h2
theorem SC (l:List Int) (hl:l.length<=maxLen):lf l l=some (true,()):=by
 refine Tt.tru ?_;unfold lf;rw[ef,beq_self_eq_true];refine .br (fun _=> .bind (.count (B:=jF) (E:=Sum.elim (fun _=>False) fun _=>True) l.length (fun k (_:Unit)=>((l,l,(l.length:Int),(k:Int),()),(),())) (fun _ _=>True) (fun _ _=> .end (aR _) (.ret trivial)) (fun k _ hk _=> .go (aE.2 hk) (.ip (ax k) (.get (tn hk) fun x e _=> .ip (ax k) (.get (tn hk) fun y e2 _=> ?_)))) () trivial) fun y hy=> ?_) (fun h=>by cases h)
 ·obtain rfl:x=y:=Option.some.inj ((show l[k]? =some x from e).symm.trans (show l[k]? =some y from e2));rw[beq_self_eq_true];exact .br (fun h=>by cases h) fun _=> .ret ⟨(),by rw[ec hl hk],trivial⟩
 ·cases y with
  |inl y=>exact hy.elim
  |inr y=>exact .ret rfl
theorem OY (l:List eO) (hl:l.length<=maxLen):mh l l=some (true,()):=by
 refine Tt.tru ?_;unfold mh;rw[ef,beq_self_eq_true];refine .br (fun _=> .bind (.count (B:=mC) (E:=Sum.elim (fun _=>False) fun _=>True) l.length (fun k (_:Unit)=>((l,l,(l.length:Int),(k:Int),()),(),())) (fun _ _=>True) (fun _ _=> .end (aR _) (.ret trivial)) (fun k _ hk _=> .go (aE.2 hk) (.ip (ax k) (.get (tn hk) fun x e _=> .ip (ax k) (.get (tn hk) fun y e2 _=> ?_)))) () trivial) fun y hy=> ?_) (fun h=>by cases h)
 ·obtain rfl:x=y:=Option.some.inj ((show l[k]? =some x from e).symm.trans (show l[k]? =some y from e2));simp only[beq_self_eq_true,Bool.and_self];exact .br (fun h=>by cases h) fun _=> .ret ⟨(),by rw[ec hl hk],trivial⟩
 ·cases y with
  |inl y=>exact hy.elim
  |inr y=>exact .ret rfl
theorem TW (s:dZ) (h:fX 1048576 s):i9 s s=some (true,()):=by unfold i9;simp only[beq_self_eq_true,ev,(gM s.config s.config (eG h.1)).2,Ov s.log s.log (eS h.2.1),Ov s.learned s.learned (eS h.2.2),decide_true,ae]
theorem UF (m:eh) (h:sb 1048576 m):j6 m m=some (true,()):=by
 have hl:=eS h.1;refine Tt.tru ?_;unfold j6 gi;rw[beq_self_eq_true,ef,beq_self_eq_true];refine .br (fun _=> .bind (Q:=fun y=>y.1=true) (.br (fun _=> .bind (.count (B:=fV) (E:=Sum.elim (fun _=>False) fun _=>True) m.configs.length (fun k (_:Unit)=>((m.configs,(),m.configs,(m.configs.length:Int),(k:Int),()),(),())) (fun _ _=>True) (fun _ _=> .end (aR _) (.ret trivial)) (fun k _ hk _=> .go (aE.2 hk) (.ip (ax k) (.get (tn hk) fun x e hx=> .ip (ax k) (.get (tn hk) fun y e2 _=> ?_)))) () trivial) fun y hy=> ?_) (fun h=>by cases h)) fun y hy=> .ret hy) (fun h=>by cases h)
 ·obtain rfl:x=y:=Option.some.inj ((show m.configs[k]? =some x from e).symm.trans (show m.configs[k]? =some y from e2));rw[(gM x x (eG (h.2 x hx))).2,decide_eq_true rfl,ae];exact .br (fun h=>by cases h) fun _=> .ret ⟨(),by rw[ec hl hk],trivial⟩
 ·cases y with
  |inl y=>exact hy.elim
  |inr y=>exact .ret rfl
theorem UG (x:dX) (ok:ft 1048576 x):lA x x=some (true,()):=by
 have hl:=eS ok.1.1;refine Tt.tru ?_;unfold lA fF;simp only[beq_self_eq_true,Bool.and_self,ev,SC x.sides (eS ok.2.1),UF x.master ok.2.2.1,OY x.places (eS ok.2.2.2),ae];rw[ef];refine .bind (Q:=fun y=>y.1=true) (.br (fun _=> .bind (.count (B:=fr) (E:=Sum.elim (fun _=>False) fun _=>True) x.servers.length (fun k (_:Unit)=>((x.servers,(),x.servers,(x.servers.length:Int),(k:Int),()),(),())) (fun _ _=>True) (fun _ _=> .end (aR _) (.ret trivial)) (fun k _ hk _=> .go (aE.2 hk) (.ip (ax k) (.get (tn hk) fun s e hs=> .ip (ax k) (.get (tn hk) fun t e2 _=> ?_)))) () trivial) fun y hy=> ?_) (fun h=>by cases h)) fun y hy=> .br (fun _=> .ret rfl) fun h=>by rw[h] at hy; cases hy
 ·obtain rfl:s=t:=Option.some.inj ((show x.servers[k]? =some s from e).symm.trans (show x.servers[k]? =some t from e2));rw[TW s (ok.1.2 s hs),ae];exact .br (fun h=>by cases h) fun _=> .ret ⟨(),by rw[ec hl hk],trivial⟩
 ·cases y with
  |inl y=>exact hy.elim
  |inr y=>exact .ret rfl
end Go.Proofs.YtadabkgmdllbfabGreat.En
namespace Go.Proofs.YtadabkgmdllbfabGreat.En
open Go
end Go.Proofs.YtadabkgmdllbfabGreat.En
namespace Go.Proofs.YtadabkgmdllbfabGreat.En
open Go
theorem Dy (x:dX) (ok:ft 1048576 x): ∃c d,eM x.master=some (c,d,())/\iC x.master=some (c,d,())/\iu maxLen c:=by obtain⟨c,d,d1,d2,d3⟩:=vY x.master x.master.activated ok.2.2.1;unfold eM iC;rw[d1,d2];exact⟨c,d,rfl,rfl,d3⟩
end Go.Proofs.YtadabkgmdllbfabGreat.En
namespace Go.Proofs.YtadabkgmdllbfabGreat.En
open Go
theorem QM (x:dX) (ok:ft 1048576 x) {a b:Int} (ha: ¬ (0<=a/\a<5)):eY x.sides a b=some (false,())/\mf x.sides a b=some (false,()):=by
 obtain⟨v,s1,s2⟩:=rV x.sides (eS ok.2.1)
 have wa:j8 a 0 4=false:=by
  cases h:j8 a 0 4 with
  |false=>rfl
  |true=>exact absurd (by have:=eL.1 h; omega) ha
 unfold eY mf;rw[s1,s2];simp only[gF,qm,wa,ae];cases v<;>exact⟨rfl,rfl⟩
theorem QN (x:dX) (ok:ft 1048576 x) {id:Int} (e:Int) (hid: ¬ (0<=id/\id<5)):fI x id e=some (x,())/\iP x id e=some (x,()):=by
 obtain⟨v,v1,v2⟩:=hU x ok;obtain⟨c,d,d1,d2,d3⟩:=Dy x ok;obtain⟨m,m1,m2,m3,m4,m5,_⟩:=qU c d3;have mm:m.length<=maxLen:=by unfold maxLen; omega
 unfold fI iP;simp only[(gY x ok).1,(gY x ok).2,d1,d2,v1,v2,gF,qm,ae,ef];cases v with
 |false=>exact⟨rfl,rfl⟩
 |true=>
 have vc:=gR ok v1;cases d with
 |false=>exact⟨rfl,rfl⟩
 |true=>
 cases j8 e 1 (x.master.configs.length:Int) with
 |false=>exact⟨rfl,rfl⟩
 |true=>
  obtain⟨_,_,k1,k2⟩:=yY (B1:=fR) (B2:=hQ) m.length
   (fun k (_:Unit)=>((id,e,(),(),(),(),(k:Int),()),(fx x,fz,fc x,()),(m,x.servers,x.sides,x.master.configs,x.places,())))
   (fun k (_:Unit)=>((id,e,(),(),(),(),(m.length:Int),(k:Int),()),(fx x,fz,fc x,()),(m,x.servers,x.sides,x.master.configs,x.places,())))
   (fun _ _=>True)
   (fun _=>(((),(),()),(fz,fc x,()),(x.servers,x.sides,x.master.configs,x.places,())))
   (fun _=>(((),(),()),(fz,fc x,()),(x.servers,x.sides,x.master.configs,x.places,())))
   (fun _ _=>by simp only[fR,hQ,ei];exact⟨if_neg (by omega),if_neg (by omega)⟩)
   (fun k _ hk _=>by
     have c1: (k:Int)< (m.length:Int):=by omega
     have c2: (0:Int)<=(k:Int)/\(k:Int)< (m.length:Int):=by omega
     have hz:=m4 _ (ba hk);have hg:m[k]? =some m[k] :=ah hk;generalize m[k] =z at hz hg;obtain⟨s,s1,s2,_⟩:=sG ok vc hz;obtain⟨h1,h2⟩:=QM x ok (b:=z) hid;have c3:0<=z/\z< (x.servers.length:Int):=by rw[vc.len]; exact hz
     refine⟨(),?_,?_,trivial⟩
     ·simp only[fR,fx,ei,en,if_pos c1,if_pos c2,aw,hg,ae,if_pos hz.1,s1,h1,ec mm hk,eJ];cases s.up<;>rfl
     ·simp only[hQ,fx,ei,en,if_pos c1,if_pos c2,aw,hg,ae,if_pos c3,s1,h2,ec mm hk,eJ];cases s.up<;>rfl)
   () trivial
  simp only[ev,m1,m2,ae];rw[show qf ((id,e,(),(),(),(),0,()),(fx x,fz,fc x,()),(m,x.servers,x.sides,x.master.configs,x.places,()))=_ from k1,show qk ((id,e,(),(),(),(),(m.length:Int),0,()),(fx x,fz,fc x,()),(m,x.servers,x.sides,x.master.configs,x.places,()))=_ from k2];exact⟨rfl,rfl⟩
theorem TX (x:dX) (ok:ft 1048576 x) (id e:Int): ∃y,fI x id e=some (y,())/\iP x id e=some (y,())/\ft 1048576 y/\(eb x=some (true,())->eb y=some (true,())/\O4 x y/\ ∃S,y=mn x S):=by
 by_cases hid:0<=id/\id<5
 ·obtain⟨v,v1,v2⟩:=hU x ok;cases v with
  |true=>obtain⟨S,a1,a2,a3,a4,a5,_⟩:=IH x ok v1 (e:=e) hid;exact⟨_,a1,a2,a3,fun _=>⟨a4,a5,S,rfl⟩⟩
  |false=>
   obtain⟨c,d,d1,d2,_⟩:=Dy x ok;refine⟨x,?_,?_,ok,fun h=>by rw[v1] at h; cases h⟩
   ·unfold fI;simp only[(gY x ok).1,d1,v1,ae,ef];rfl
   ·unfold iP;simp only[(gY x ok).2,d2,v2,ae,ef];rfl
 ·obtain⟨a1,a2⟩:=QN x ok e hid;exact⟨x,a1,a2,ok,fun h=>⟨h, .refl x,x.servers,rfl⟩⟩
theorem QO (s:dZ) (e:Int) (h:fX 1048576 s) (h0:0<=s.epoch) (he:1<=e/\e<=20): ∃ep b,hO s e=some (s8 s ep,b,())/\e<=ep:=by
 unfold hO;simp only[(sF s h).1,gF,eL.2 he,ae,ef,ev,ei];by_cases h1:e<=s.epoch
 ·rw[if_pos h1];exact⟨s.epoch,false,rfl,h1⟩
 ·rw[if_neg h1,if_neg (by omega)];exact⟨e,true,rfl,bQ e⟩
theorem OZ (x:dX) (ok:ft 1048576 x) (hv:eb x=some (true,())) {id e:Int} {c:ed} (hc:eM x.master=some (c,true,())) (hcc:iu maxLen c) (he:1<=e/\e<=(x.master.configs.length:Int)) {M:List Int} (hM:fD c=some (M,())) (hr: ∀z∈M,0<=z/\z<5) (hl:M.length<=10):
  Tt (fun y=> ∀z∈M,∀s,x.servers[z.toNat]? =some s->s.up=true->eY x.sides id z=some (true,())-> ∀t,y.1.servers[z.toNat]? =some t->e<=t.epoch) (fI x id e):=by
 have vc:=gR ok hv;have hml:=Ow ok.2.2.1 vc.ml;have mm:M.length<=maxLen:=by unfold maxLen; omega
 unfold fI;simp only[(gY x ok).1,hc,hv,gF,eL.2 he,hM,ae,ef,ev]
 refine .bind (.count (B:=fR) (E:=fun q=> ∀z∈M,∀s,x.servers[z.toNat]? =some s->s.up=true->eY x.sides id z=some (true,())-> ∀t,q.2.2.1[z.toNat]? =some t->e<=t.epoch) M.length
  (fun k (S:List dZ)=>((id,e,(),(),(),(),(k:Int),()),(fx x,fz,fc x,()),(M,S,x.sides,x.master.configs,x.places,())))
  (fun k S=>S.length=5/\ ∀j z,j<k->M[j]? =some z-> ∀s,x.servers[z.toNat]? =some s->s.up=true->eY x.sides id z=some (true,())-> ∀t,S[z.toNat]? =some t->e<=t.epoch)
  (fun S hS=> .end (aR _) (.ret fun z hz=> ?_)) (fun k S hk hS=> ?_) x.servers ⟨vc.len,fun j z h=>absurd h (dM j)⟩) fun q hq=> .ret hq
 ·obtain⟨j,hj,rfl⟩:=aJ hz;exact hS.2 j _ hj (ah hj)
 ·have c1: (k:Int)< (M.length:Int):=by omega
  have c2: (0:Int)<=(k:Int)/\(k:Int)< (M.length:Int):=by omega
  have hz:=hr _ (ba hk);have hg:M[k]? =some M[k] :=ah hk;generalize M[k] =z at hz hg;obtain⟨s,s1,s2,s3⟩:=sG ok vc hz;have c3:0<=z/\z< (S.length:Int):=by rw[hS.1]; exact hz
  have hlt:z.toNat<S.length:=by omega
  obtain⟨_,_,_,_,_,_,_,e0,_⟩:=rX s2 s3;obtain⟨ep,b,q1,q2⟩:=QO s e s2 e0 ⟨he.1,by omega⟩
  have keep: (s.up=true->eY x.sides id z=some (true,())->False)->S.length=5/\ ∀j z,j<k+1->M[j]? =some z-> ∀s,x.servers[z.toNat]? =some s->s.up=true->eY x.sides id z=some (true,())-> ∀t,S[z.toNat]? =some t->e<=t.epoch:=fun hn=>⟨hS.1,fun j z' hj hz' s' hs' hu hsd t ht=>by
   by_cases hjk:j=k
   ·subst hjk;rw[hg] at hz';obtain rfl:=Option.some.inj hz';rw[s1] at hs';obtain rfl:=Option.some.inj hs';exact (hn hu hsd).elim
   ·exact hS.2 j z' (by omega) hz' s' hs' hu hsd t ht⟩
  obtain⟨sd,sd1,_⟩:=AO ok vc id z;simp only[fR,fx,ei,en,if_pos c1,if_pos c2,aw,hg,ae,if_pos hz.1,if_pos c3,s1,sd1,ah hlt,q1,ec mm hk];cases hu:s.up with
  |false=>exact .ret ⟨S,rfl,keep fun h=>by rw[hu] at h; cases h⟩
  |true=>
   cases hd:sd.1 with
   |false=>exact .ret ⟨S,rfl,keep fun _ h=>by rw[sd1] at h; rw[Option.some.inj h] at hd; cases hd⟩
   |true=>
    refine .ret ⟨S.set z.toNat (s8 s ep),rfl,by rw[aZ]; exact hS.1,fun j z' hj hz' s' hs' hu' hsd t ht=> ?_⟩;by_cases hzz:z.toNat=z'.toNat
    ·rw[<-hzz,b6 hlt] at ht;rw[<-Option.some.inj ht];exact q2
    ·rw[ch hzz] at ht;by_cases hjk:j=k
     ·subst hjk;rw[hg] at hz';exact absurd (congrArg Int.toNat (Option.some.inj hz')) hzz
     ·exact hS.2 j z' (by omega) hz' s' hs' hu' hsd t ht
structure Co (x y:dX):Prop where
 sides:y.sides=x.sides
 master:y.master=x.master
 srv: ∀ (j:Nat) s,x.servers[j]? =some s-> ∃t,y.servers[j]? =some t/\t.up=s.up/\t.version=s.version/\t.epoch=s.epoch/\t.config=s.config
theorem Co.self (x:dX):Co x x:=⟨rfl,rfl,fun _ s h=>⟨s,h,rfl,rfl,rfl,rfl⟩⟩
theorem Co.trans {x y z:dX} (h:Co x y) (k:Co y z):Co x z:=⟨k.1.trans h.1,k.2.trans h.2,fun j s hs=>by obtain⟨t,t1,t2,t3,t4,t5⟩:=h.srv j s hs;obtain⟨u,u1,u2,u3,u4,u5⟩:=k.srv j t t1;exact⟨u,u1,u2.trans t2,u3.trans t3,u4.trans t4,u5.trans t5⟩⟩
theorem Co.set {x y:dX} (h:Co x y) {i:Nat} {s t:dZ} (hs:y.servers[i]? =some s) (h1:t.up=s.up) (h2:t.version=s.version) (h3:t.epoch=s.epoch) (h4:t.config=s.config):Co x ⟨y.now,y.servers.set i t,y.sides,y.master,y.masterUp,y.lease,y.places⟩:=
 h.trans ⟨rfl,rfl,fun j u hu=>by
  by_cases hj:i=j
  ·subst hj;rw[hs] at hu;obtain rfl:=Option.some.inj hu;exact⟨t,b6 (je hs),h1,h2,h3,h4⟩
  ·exact⟨u,(ch hj).trans hu,rfl,rfl,rfl,rfl⟩⟩
def Hr (x:dX) (a b:Int):Prop:= ∀p q,x.servers[a.toNat]? =some p->x.servers[b.toNat]? =some q->q.epoch=p.epoch/\q.config=p.config
theorem Co.hr {x y:dX} (h:Co x y) {a b:Int} (hh:Hr y a b):Hr x a b:=fun p q hp hq=>by obtain⟨p',p1,_,_,p2,p3⟩:=h.srv _ _ hp;obtain⟨q',q1,_,_,q2,q3⟩:=h.srv _ _ hq;obtain⟨e1,e2⟩:=hh p' q' p1 q1;exact⟨q2.symm.trans (e1.trans p2),q3.symm.trans (e2.trans p3)⟩
theorem SD {x:dX} (ok:ft 1048576 x) (vc:VC x) {a b:Int} (ha:0<=a/\a<5) (hb:0<=b/\b<5):Tt (fun y=>y.1=true->Hr x a b) (ke x a b):=by unfold ke;have no:Tt (fun y:Bool×Unit=>y.1=true->Hr x a b) (some (false,())):= .ret nofun;refine .srv ok vc hb fun m m1 m2 _=> .bind (AO ok vc a b) fun _ _=> .br (fun _=> .br (fun _=> .srv ok vc ha fun p p1 p2 _=> .br (fun he=> .srv ok vc ha fun _ _ _ _=> .br (fun _=> .srv ok vc ha fun q q1 _ _=> ?_) fun _=>no) fun _=>no) fun _=>no) fun _=>no;rw[(gM m.config q.config (eG m2.1)).1];refine .ret fun h p' q' hp hq=> ?_;rw[p1] at hp;rw[m1] at hq;rw[p1] at q1;obtain rfl:=Option.some.inj hp;obtain rfl:=Option.some.inj hq;obtain rfl:=Option.some.inj q1;exact⟨eq_of_beq he,of_decide_eq_true h⟩
theorem TY (x:dX) (ok:ft 1048576 x) (id m:Int):Tt (fun y=>Kp x y.1/\Co x y.1/\(y.2.1=true->Hr x id m)) (fE x id m):=by
 obtain⟨b,b1,_,b2⟩:=nT x ok id;have bad:Tt (fun y:dX×Bool×Unit=>Kp x y.1/\Co x y.1/\(y.2.1=true->Hr x id m)) (some (x,false,())):= .ret ⟨.self ok, .self x,nofun⟩;unfold fE;rw[(gY x ok).1,ae,b1,ae,ef];refine .br (fun e=> ?_) fun _=>bad;obtain⟨hv,h0,h5,hp⟩:=b2 e;have vc:=gR ok hv;refine .srv ok vc ⟨h0,h5⟩ fun s s1 s2 s3=> .bind (qa _ (eG s2.1)) fun y hy=> ?_;rw[(fm y.1 m (by have:=hy.1; unfold maxLen; omega)).1,ae,ef];refine .br (fun hm=> ?_) fun _=>bad;have hm:=hy.2 m (of_decide_eq_true hm);refine .bind (SD ok vc ⟨h0,h5⟩ hm) fun z hz=> ?_;rw[ef];refine .br (fun e=> .srv ok vc ⟨h0,h5⟩ fun t t1 t2 t3=> .srv ok vc ⟨h0,h5⟩ fun u _ u2 _=> ?_) fun _=>bad;have hz:=hz e;obtain⟨n,n1,_⟩:=sZ u.config m (eG u2.1);rw[n1,ae];have five: ∀ (i:Nat) (s:dZ),(x.servers.set i s).length=5:=fun i s=>by rw[aZ]; exact vc.len
 refine .br (fun _=> ?_) fun _=> ?_
 ·rw[Dv t.log t2.2.1 (rX t2 t3).2.2.2.2.2.1,ae];refine .ip (by show 0<=m/\m< (x.servers.length:Int); rw[vc.len]; exact hm) (.at vc.len hm fun w w1 hw=> ?_);have hw:=ok.1.2 w hw;refine .get (by rw[five]; omega) fun w' w1' hw'=> .ret ⟨.srvs (.self ok) (by rw[aZ,aZ]) fun s hs=> ?_,?_,fun _=>hz⟩
  ·have all:=(uD ok.1 (s:=⟨w.up,w.intact,w.version,w.epoch,w.config,((ja t.log:Nat):Int),w.log,w.commit,w.learned⟩) hw m.toNat)
   have hw':=all.2 w' hw';exact (uD all (s:=⟨w'.up,w'.intact,w'.version,w'.epoch,w'.config,w'.first,t.log.drop (ja t.log),w'.commit,w'.learned⟩) ⟨hw'.1,by show List.length _<=_; rw[bg]; have:=t2.2.1; omega,hw'.2.2⟩ m.toNat).2 s hs
  ·exact Co.set (t:=⟨w'.up,w'.intact,w'.version,w'.epoch,w'.config,w'.first,t.log.drop (ja t.log),w'.commit,w'.learned⟩) (Co.set (t:=⟨w.up,w.intact,w.version,w.epoch,w.config,((ja t.log:Nat):Int),w.log,w.commit,w.learned⟩) (.self x) w1 rfl rfl rfl rfl) w1' rfl rfl rfl rfl
 ·rw[xe t2.2.1,ae];exact .at vc.len hm fun w w1 hw=> .ret ⟨(Kp.self ok).set (s:=⟨w.up,w.intact,w.version,w.epoch,w.config,w.first,t.log,w.commit,w.learned⟩) ⟨(ok.1.2 w hw).1,t2.2.1,(ok.1.2 w hw).2.2⟩ _,Co.set (t:=⟨w.up,w.intact,w.version,w.epoch,w.config,w.first,t.log,w.commit,w.learned⟩) (.self x) w1 rfl rfl rfl rfl,fun _=>hz⟩
theorem QP (x:dX) (ok:ft 1048576 x) (id:Int):Tt (fun y=>y.2.1=true->eb x=some (true,())/\0<=id/\id<5/\ ∃p,x.servers[id.toNat]? =some p/\fq p id=some (true,())/\ ∀M,fD p.config=some (M,())-> ∀m∈M,Hr x id m) (fQ x id):=by
 obtain⟨b,b1,_,b2⟩:=nT x ok id;unfold fQ;rw[(gY x ok).1,ae,b1,ae,ef];refine .br (fun e=> ?_) fun _=> .ret nofun;obtain⟨hv,h0,h5,hp⟩:=b2 e;have vc:=gR ok hv;refine .srv ok vc ⟨h0,h5⟩ fun s s1 s2 s3=> ?_;obtain⟨⟨M,_⟩,hM,hy⟩:=qa _ (eG s2.1);rw[hM,ae];have hl:M.length<=maxLen:=by have :M.length<=10:=hy.1; unfold maxLen; omega
 refine .bind (.count (B:=gP) (E:=fun e=> ∃ (c:dX) (a:Bool),Kp x c/\(a=true-> ∀m∈M,Hr x id m)/\e=((id,(),(),(),a,()),(fz,fc c,()),M,c.servers,c.sides,c.master.configs,c.places,())) M.length (fun k (b:dX×Bool)=>((id,(),(),(),b.2,(k:Int),()),(fz,fc b.1,()),M,b.1.servers,b.1.sides,b.1.master.configs,b.1.places,())) (fun k b=>Kp x b.1/\Co x b.1/\(b.2=true-> ∀j m,j<k->M[j]? =some m->Hr x id m)) (fun b hb=> .end (aR _) (.ret ⟨b.1,b.2,hb.1,fun e m hm=> ?_,rfl⟩)) (fun k b hk hb=> .go (aE.2 hk) (.ip ⟨ax k,aE.2 hk⟩ (.get (tn hk) fun z z1 hz=> .bind (TY b.1 hb.1.1 id z) fun w hw=> .br (fun hb2=> .ret ⟨(w.1,w.2.1),by rw[ec hl hk],hb.1.trans hw.1,hb.2.1.trans hw.2.1,fun hw2 j m hj hm=> ?_⟩) fun _=> .ret ⟨(w.1,false),by rw[ec hl hk],hb.1.trans hw.1,hb.2.1.trans hw.2.1,nofun⟩))) (x,true) ⟨.self ok, .self x,fun _ j m h=>absurd h (dM j)⟩) ?_
 ·obtain⟨j,hj,rfl⟩:=aJ hm;exact hb.2.2 e j _ hj (ah hj)
 ·by_cases hjk:j=k
  ·subst hjk;have z1:M[j]? =some z:=z1;rw[z1] at hm;obtain rfl:=Option.some.inj hm;exact hb.2.1.hr (hw.2.2 hw2)
  ·exact hb.2.2 hb2 j m (by omega) hm
 rintro _ ⟨c,a,hc,ha,rfl⟩
 refine .bind (.count (B:=fY) (E:=fun e=>e.1.2.2.1=true->a=true) M.length (fun k (b:List dZ)=>((id,(),(),(),a,(k:Int),()),(fz,fc c,()),M,b,c.sides,c.master.configs,c.places,())) (fun _ b=>b.length=5/\ ∀s∈b,fX 1048576 s) (fun b hb=> .end (aR _) (.ret fun h=>h)) (fun k b hk hb=> .go (aE.2 hk) (.br (fun _=> .ip ⟨ax k,aE.2 hk⟩ (.get (tn hk) fun z _ hz=> .at hb.1 ⟨h0,h5⟩ fun p _ _=> .at hb.1 (hy.2 z hz) fun q _ hq=> .ret ⟨b.set z.toNat ⟨q.up,q.intact,q.version,q.epoch,q.config,q.first,q.log,((p.log.length:Nat):Int),q.learned⟩,by rw[ec hl hk],GC hb (s:=⟨q.up,q.intact,q.version,q.epoch,q.config,q.first,q.log,((p.log.length:Nat):Int),q.learned⟩) (hb.2 q hq) _⟩)) fun _=> .ret fun h=>h)) c.servers ⟨hc.2.trans vc.len,hc.1.1.2⟩) ?_;intro e he;refine .ret fun h=>⟨hv,h0,h5,s,s1,hp s s1,fun M' hM' m hm=> ?_⟩
 rw[hM] at hM';obtain rfl:=(Prod.mk.inj (Option.some.inj hM')).1;exact ha (he h) m hm
theorem MA {s:dZ} {id:Int} (ok:fX 1048576 s) (h:fq s id=some (true,())):s.epoch=s.config.epoch:=by
 obtain⟨v,v1,_⟩:=nS s id ok;obtain⟨n,n1,_⟩:=sZ s.config id (eG ok.1);unfold fq at h;simp only[v1,n1,ae] at h;cases v with
 |false=>cases h
 |true=>
  cases hu:s.up with
  |false=>rw[hu] at h; cases h
  |true=>
   rw[hu] at h;cases hn:n==1 with
   |false=>rw[hn] at h; cases h
   |true=>rw[hn] at h;exact eq_of_beq (Prod.mk.inj (Option.some.inj h)).1
theorem O0 (x:dX) (ok:ft 1048576 x) (hv:eb x=some (true,())) {id e:Int} {c:ed} (hc:eM x.master=some (c,true,())) (he:c.epoch<e/\e<=(x.master.configs.length:Int)) {y:dX} (hy:fI x id e=some (y,())) (oky:ft 1048576 y) (se:O4 x y) {M:List Int} (hM:fD c=some (M,())) {z:Int} (hz:z∈M) {s:dZ} (hs:x.servers[z.toNat]? =some s) (hu:s.up=true) (hd:eY x.sides id z=some (true,()))
  {w:dX} (hw:fQ y c.primary=some (w,true,())) {p:dZ} (hp:x.servers[c.primary.toNat]? =some p):p.config.epoch≠c.epoch:=by
 intro hpe;obtain⟨c',b',d1,d2,d3,d4,d5,d6⟩:=qn x ok hv;rw[hc] at d1;simp only[af,an,and_true] at d1;obtain⟨rfl,rfl⟩:=d1;obtain⟨cv,ce⟩:=d5 rfl;obtain⟨_,_,_,_,e0,_⟩:=oY d3 cv;obtain⟨M',m1,_,m3,m4,_,_⟩:=qU c d3;rw[hM] at m1;obtain rfl:=(Prod.mk.inj (Option.some.inj m1)).1;obtain⟨uK,h0,h5,p',p1,p2,p3⟩:=(QP y oky c.primary).is hw rfl;obtain⟨ep,q1⟩:=se.srv _ _ hp;rw[p1] at q1;have q1:=Option.some.inj q1;have hpc:p'.config=p.config:=by rw[q1]
 have hlt:=je hp;have sv:=Ox ok hv c.primary.toNat hlt;rw[ah hlt] at hp;rw[Option.some.inj hp] at sv
 have hcp:p.config=c:=by
  rcases sv.cfg with h| ⟨h,_⟩
  ·rw[h] at hpe;have : (0:Int)=c.epoch:=hpe;omega
  ·unfold eM at hc;rw[hpe,ce] at h;rw[h,ae] at hc;simp only[af,an,and_true] at hc;exact hc
 have okp:=oky.1.2 p' (au p1);have pe:=MA okp p2;rw[hpc,hcp] at pe;have hlz:=je hs;obtain⟨t,t1⟩:=se.srv _ _ hs;have hh:=p3 M (by rw[hpc,hcp]; exact hM) z hz p' _ p1 t1;have hin:=(OZ x ok hv hc d3 (e:=e) (by omega) hM m4 m3).is hy z hz s hs hu hd _ t1;have:=hh.1;omega
end Go.Proofs.YtadabkgmdllbfabGreat.En
namespace Go.Proofs.YtadabkgmdllbfabGreat.En
open Go
section
variable [dY]
theorem O1 {x:Hd} {l:List Int} (h:rn x=some l) (hl:l.length<=maxLen) (hb: ∀m∈l,0<=m/\m<=255):Tt (fun y=>ft 1048576 y.1) (jX x):=by unfold jX;exact .dn (Sd h hl hb) fun c1 _ h1 _=> .dn (Kg h1) fun c2 y h2 hy=> .ip rfl (.dn (gX h2 _) fun c3 _ h3 _=> .ip rfl (.dn (iX h3 (by simp)) fun c4 _ _ _=> .ip rfl (.ret hy.1)))
theorem IM (x:Hd) (l:List Int) (h:rn x=some l) (hl:l.length<=maxLen) (hb: ∀m∈l,0<=m/\m<=255):sD x=some (true,()):=by
 refine Tt.tru ?_;unfold sD;refine .bind (Q:=T1) (by unfold N7; exact .ret trivial) fun _ _=> .br (fun _=> .ret rfl) fun _=> .bind (O1 h hl hb) fun a ha=> ?_;obtain⟨y,s1,i1,oky,sv⟩:=TX a.1 ha a.2.1 a.2.2.1;rw[i1,s1,ae,ae,UG y oky,ae,ef];refine .br (fun _=> ?_) (fun h=>by cases h);obtain⟨c,d,d1,_,d3⟩:=Dy a.1 ha;rw[d1,ae,ef];refine .br (fun hd=> ?_) fun _=> .ret rfl;have hd:d=true:=hd;subst hd;obtain⟨v,v1,_⟩:=hU a.1 ha;rw[v1,ae,ef];refine .br (fun hv=> ?_) fun _=> .ret rfl;have hv:v=true:=hv;subst hv;obtain⟨uK,se,_⟩:=sv v1;have vc:=gR ha v1;have vcy:=gR oky uK;refine .br (fun _=> .ret rfl) fun e1=> .br (fun _=> .ret rfl) fun e2=> ?_;have e1: ¬a.2.2.1<=c.epoch:=of_decide_eq_false e1;have e2: ¬a.2.2.1>(a.1.master.configs.length:Int):=of_decide_eq_false e2;obtain⟨M,m1,_,m3,m4,_,_⟩:=qU c d3;have mm:M.length<=maxLen:=by unfold maxLen; omega
 obtain⟨c',b',q1,_,_,_,q5,_⟩:=qn a.1 ha v1;rw[d1] at q1;simp only[af,an,and_true] at q1;obtain⟨rfl,rfl⟩:=q1;obtain⟨cv,_⟩:=q5 rfl;obtain⟨a1,_,cp,c1,_⟩:=oY d3 cv;have hp:=o0 a1 _ cp;rw[m1,ae];have hin:=(OZ a.1 ha v1 d1 d3 (id:=a.2.1) (e:=a.2.2.1) (by omega) m1 m4 m3).is s1
 refine .bind (.count (B:=oX) (E:=Sum.elim (fun _=>False) fun e=> ∃r:Bool,(r=true-> ∃z∈M,∃s,a.1.servers[z.toNat]? =some s/\s.up=true/\eY a.1.sides a.2.1 z=some (true,()))/\e=(((),(),(),(),r,()),(fc a.1,fc y,(c.epoch,c.primary,(),(),()),()),a.1.servers,a.1.sides,a.1.master.configs,a.1.places,y.servers,y.sides,y.master.configs,y.places,c.replicas,c.witnesses,())) M.length
  (fun k (r:Bool)=>(((),a.2.1,a.2.2.1,(),(),r,(),(k:Int),()),(fc a.1,fc y,(c.epoch,c.primary,(),(),()),()),M,a.1.servers,a.1.sides,a.1.master.configs,a.1.places,y.servers,y.sides,y.master.configs,y.places,c.replicas,c.witnesses,()))
  (fun _ r=>r=true-> ∃z∈M,∃s,a.1.servers[z.toNat]? =some s/\s.up=true/\eY a.1.sides a.2.1 z=some (true,()))
  (fun r hr=> .end (aR _) (.ret ⟨r,hr,rfl⟩)) (fun k r hk hr=> ?_) false nofun) fun e he=> ?_
 ·have sw:=ec mm hk;have two: (0:Int)<=(k:Int)/\(k:Int)< (M.length:Int):=⟨ax k,aE.2 hk⟩
  refine .go (aE.2 hk) (.ip two (.get (tn hk) fun z z1 hm=> ?_));have z1:M[k]? =some z:=z1;have hz:=m4 z hm
  have sT:Tt (fun q:Bool×Unit=>q.1=true->eY a.1.sides a.2.1 z=some (true,())) (eY a.1.sides a.2.1 z):=by obtain⟨sd,sd1,_⟩:=AO ha vc a.2.1 z;exact⟨sd,sd1,fun h=>by rw[sd1,<-h]⟩
  refine .at vc.len hz fun s s1' _=> .br (fun hu=> .ip two (.get (tn hk) fun z2 e2 _=> ?_)) fun _=> .ret ⟨r,by rw[sw],hr⟩;obtain rfl:z2=z:=Option.some.inj ((show M[k]? =some z2 from e2).symm.trans z1);refine .bind sT fun sd hsd=> .br (fun hd=> .ip two (.get (tn hk) fun z3 e3 _=> ?_)) fun _=> .ret ⟨r,by rw[sw],hr⟩;obtain rfl:z3=z2:=Option.some.inj ((show M[k]? =some z3 from e3).symm.trans z1);refine .at vcy.len hz fun t t1 _=> .br (fun hlt=> ?_) fun _=> .ret ⟨true,by rw[sw],fun _=>⟨z3,hm,s,s1',hu,hsd hd⟩⟩;have h1:=hin z3 hm s s1' hu (hsd hd) t t1;have h2:t.epoch<a.2.2.1:=of_decide_eq_true hlt;omega
 ·cases e with
  |inl e=>exact he.elim
  |inr e=>obtain⟨r,hr,rfl⟩:=he;obtain⟨S,b,k1,k2,_⟩:=Ev y oky c.primary;show Tt _ ((i4 y c.primary).bind _);rw[k2,ae,ef];refine .br (fun e3=> ?_) fun _=> .ret rfl;rw[ef];refine .br (fun e4=> .at vc.len hp fun p p1 _=> .ret ?_) fun _=> .ret rfl;have e4:b=true:=e4;subst e4;obtain⟨z,hz,s,z1,z2,z3⟩:=hr e3;have:=O0 a.1 ha v1 d1 (by omega) s1 oky se m1 hz z1 z2 z3 k1 p1;show (!(p.config.epoch==c.epoch))=true;rw[beq_eq_false_iff_ne.2 this];rfl
end
end Go.Proofs.YtadabkgmdllbfabGreat.En
