import Derived.Test.YtfnohnjnncjidaaGreatDoorProg
import Derived.KernelRfl
import Derived.Test.YtfnohnjnncjidaaGreatDoorQS10
namespace Go.Proofs.YtfnohnjnncjidaaGreatDoor
open Go Pm
theorem tb_tk_0 : tk Tryz.prog 0 = TK.other := by kernel_rfl
theorem tb_loadK_0 : loadK Tryz.prog 0 = some (false, 1) := by kernel_rfl
theorem tb_zeroK_0 : zeroK Tryz.prog 0 = some [Value.tuple { toList := [] }] := by kernel_rfl
theorem tb_bytesK_0 : bytesK Tryz.prog 0 = some 0 := by kernel_rfl
theorem tb_sliceElem_0 : sliceElem Tryz.prog 0 = none := by kernel_rfl
theorem tb_arrElem_0 : arrElem Tryz.prog 0 = none := by kernel_rfl
theorem tb_byteEl_0 : byteEl Tryz.prog 0 = false := by kernel_rfl
theorem tb_tk_1 : tk Tryz.prog 1 = TK.other := by kernel_rfl
theorem tb_loadK_1 : loadK Tryz.prog 1 = some (false, 1) := by kernel_rfl
theorem tb_zeroK_1 : zeroK Tryz.prog 1 = some [Value.nilFunc] := by kernel_rfl
theorem tb_bytesK_1 : bytesK Tryz.prog 1 = some 8 := by kernel_rfl
theorem tb_sliceElem_1 : sliceElem Tryz.prog 1 = none := by kernel_rfl
theorem tb_arrElem_1 : arrElem Tryz.prog 1 = none := by kernel_rfl
theorem tb_byteEl_1 : byteEl Tryz.prog 1 = false := by kernel_rfl
theorem tb_tk_2 : tk Tryz.prog 2 = TK.int IntKind.i64 := by kernel_rfl
theorem tb_loadK_2 : loadK Tryz.prog 2 = some (false, 1) := by kernel_rfl
theorem tb_zeroK_2 : zeroK Tryz.prog 2 = some [Value.int IntKind.i64 0] := by kernel_rfl
theorem tb_bytesK_2 : bytesK Tryz.prog 2 = some 8 := by kernel_rfl
theorem tb_byteEl_2 : byteEl Tryz.prog 2 = false := by kernel_rfl
theorem tb_tk_3 : tk Tryz.prog 3 = TK.int IntKind.i64 := by kernel_rfl
theorem tb_loadK_3 : loadK Tryz.prog 3 = some (false, 1) := by kernel_rfl
theorem tb_zeroK_3 : zeroK Tryz.prog 3 = some [Value.int IntKind.i64 0] := by kernel_rfl
theorem tb_bytesK_3 : bytesK Tryz.prog 3 = some 8 := by kernel_rfl
theorem tb_byteEl_3 : byteEl Tryz.prog 3 = false := by kernel_rfl
theorem tb_tk_4 : tk Tryz.prog 4 = TK.bool := by kernel_rfl
theorem tb_loadK_4 : loadK Tryz.prog 4 = some (false, 1) := by kernel_rfl
theorem tb_zeroK_4 : zeroK Tryz.prog 4 = some [Value.bool false] := by kernel_rfl
theorem tb_bytesK_4 : bytesK Tryz.prog 4 = some 1 := by kernel_rfl
theorem tb_byteEl_4 : byteEl Tryz.prog 4 = false := by kernel_rfl
theorem tb_tk_5 : tk Tryz.prog 5 = TK.int IntKind.u8 := by kernel_rfl
theorem tb_loadK_5 : loadK Tryz.prog 5 = some (false, 1) := by kernel_rfl
theorem tb_zeroK_5 : zeroK Tryz.prog 5 = some [Value.int IntKind.u8 0] := by kernel_rfl
theorem tb_bytesK_5 : bytesK Tryz.prog 5 = some 1 := by kernel_rfl
theorem tb_byteEl_5 : byteEl Tryz.prog 5 = false := by kernel_rfl
theorem tb_tk_6 : tk Tryz.prog 6 = TK.int IntKind.u8 := by kernel_rfl
theorem tb_loadK_6 : loadK Tryz.prog 6 = some (false, 1) := by kernel_rfl
theorem tb_zeroK_6 : zeroK Tryz.prog 6 = some [Value.int IntKind.u8 0] := by kernel_rfl
theorem tb_bytesK_6 : bytesK Tryz.prog 6 = some 1 := by kernel_rfl
theorem tb_byteEl_6 : byteEl Tryz.prog 6 = false := by kernel_rfl
theorem tb_tk_7 : tk Tryz.prog 7 = TK.other := by kernel_rfl
theorem tb_loadK_7 : loadK Tryz.prog 7 = some (true, 4) := by kernel_rfl
theorem tb_zeroK_7 : zeroK Tryz.prog 7 = some [Value.int IntKind.i64 0, Value.int IntKind.i64 0, Value.bool false, Value.int IntKind.u8 0] := by kernel_rfl
theorem tb_bytesK_7 : bytesK Tryz.prog 7 = some 24 := by kernel_rfl
theorem tb_sliceElem_7 : sliceElem Tryz.prog 7 = none := by kernel_rfl
theorem tb_arrElem_7 : arrElem Tryz.prog 7 = none := by kernel_rfl
theorem tb_placesK_7 : placesK Tryz.prog 7 = some [(0, 1), (1, 1), (2, 1), (3, 1)] := by kernel_rfl
theorem tb_byteEl_7 : byteEl Tryz.prog 7 = false := by kernel_rfl
theorem tb_flatK_7 : flatK Tryz.prog 7 = some [TypeDesc.int IntKind.i64, TypeDesc.int IntKind.i64, TypeDesc.bool, TypeDesc.int IntKind.u8] := by kernel_rfl
theorem tb_fieldK_7_0 : fieldK Tryz.prog 7 0 = some (0, false, 1) := by kernel_rfl
theorem tb_fieldK_7_1 : fieldK Tryz.prog 7 1 = some (1, false, 1) := by kernel_rfl
theorem tb_fieldK_7_2 : fieldK Tryz.prog 7 2 = some (2, false, 1) := by kernel_rfl
theorem tb_fieldK_7_3 : fieldK Tryz.prog 7 3 = some (3, false, 1) := by kernel_rfl
theorem tb_tk_8 : tk Tryz.prog 8 = TK.other := by kernel_rfl
theorem tb_loadK_8 : loadK Tryz.prog 8 = some (true, 4) := by kernel_rfl
theorem tb_zeroK_8 : zeroK Tryz.prog 8 = some [Value.int IntKind.i64 0, Value.int IntKind.i64 0, Value.bool false, Value.int IntKind.u8 0] := by kernel_rfl
theorem tb_bytesK_8 : bytesK Tryz.prog 8 = some 24 := by kernel_rfl
theorem tb_sliceElem_8 : sliceElem Tryz.prog 8 = none := by kernel_rfl
theorem tb_arrElem_8 : arrElem Tryz.prog 8 = none := by kernel_rfl
theorem tb_placesK_8 : placesK Tryz.prog 8 = some [(0, 1), (1, 1), (2, 1), (3, 1)] := by kernel_rfl
theorem tb_byteEl_8 : byteEl Tryz.prog 8 = false := by kernel_rfl
theorem tb_flatK_8 : flatK Tryz.prog 8 = some [TypeDesc.int IntKind.i64, TypeDesc.int IntKind.i64, TypeDesc.bool, TypeDesc.int IntKind.u8] := by kernel_rfl
theorem tb_fieldK_8_0 : fieldK Tryz.prog 8 0 = some (0, false, 1) := by kernel_rfl
theorem tb_fieldK_8_1 : fieldK Tryz.prog 8 1 = some (1, false, 1) := by kernel_rfl
theorem tb_fieldK_8_2 : fieldK Tryz.prog 8 2 = some (2, false, 1) := by kernel_rfl
theorem tb_fieldK_8_3 : fieldK Tryz.prog 8 3 = some (3, false, 1) := by kernel_rfl
theorem tb_tk_9 : tk Tryz.prog 9 = TK.str := by kernel_rfl
theorem tb_loadK_9 : loadK Tryz.prog 9 = some (false, 1) := by kernel_rfl
theorem tb_zeroK_9 : zeroK Tryz.prog 9 = some [Value.string ByteArray.empty] := by kernel_rfl
theorem tb_bytesK_9 : bytesK Tryz.prog 9 = some 16 := by kernel_rfl
theorem tb_byteEl_9 : byteEl Tryz.prog 9 = false := by kernel_rfl
theorem tb_arrLoad_9 : arrLoad Tryz.prog 9 = none := by kernel_rfl
theorem tb_tk_10 : tk Tryz.prog 10 = TK.str := by kernel_rfl
theorem tb_loadK_10 : loadK Tryz.prog 10 = some (false, 1) := by kernel_rfl
theorem tb_zeroK_10 : zeroK Tryz.prog 10 = some [Value.string ByteArray.empty] := by kernel_rfl
theorem tb_bytesK_10 : bytesK Tryz.prog 10 = some 16 := by kernel_rfl
theorem tb_byteEl_10 : byteEl Tryz.prog 10 = false := by kernel_rfl
theorem tb_arrLoad_10 : arrLoad Tryz.prog 10 = none := by kernel_rfl
theorem tb_tk_11 : tk Tryz.prog 11 = TK.str := by kernel_rfl
theorem tb_loadK_11 : loadK Tryz.prog 11 = some (false, 1) := by kernel_rfl
theorem tb_zeroK_11 : zeroK Tryz.prog 11 = some [Value.string ByteArray.empty] := by kernel_rfl
theorem tb_bytesK_11 : bytesK Tryz.prog 11 = some 16 := by kernel_rfl
theorem tb_byteEl_11 : byteEl Tryz.prog 11 = false := by kernel_rfl
theorem tb_arrLoad_11 : arrLoad Tryz.prog 11 = none := by kernel_rfl
theorem tb_tk_12 : tk Tryz.prog 12 = TK.int IntKind.u64 := by kernel_rfl
theorem tb_loadK_12 : loadK Tryz.prog 12 = some (false, 1) := by kernel_rfl
theorem tb_zeroK_12 : zeroK Tryz.prog 12 = some [Value.int IntKind.u64 0] := by kernel_rfl
theorem tb_bytesK_12 : bytesK Tryz.prog 12 = some 8 := by kernel_rfl
theorem tb_byteEl_12 : byteEl Tryz.prog 12 = false := by kernel_rfl
theorem tb_tk_13 : tk Tryz.prog 13 = TK.other := by kernel_rfl
theorem tb_loadK_13 : loadK Tryz.prog 13 = some (true, 2) := by kernel_rfl
theorem tb_zeroK_13 : zeroK Tryz.prog 13 = some [Value.string ByteArray.empty, Value.int IntKind.u64 0] := by kernel_rfl
theorem tb_bytesK_13 : bytesK Tryz.prog 13 = some 24 := by kernel_rfl
theorem tb_sliceElem_13 : sliceElem Tryz.prog 13 = none := by kernel_rfl
theorem tb_arrElem_13 : arrElem Tryz.prog 13 = none := by kernel_rfl
theorem tb_placesK_13 : placesK Tryz.prog 13 = some [(0, 1), (1, 1)] := by kernel_rfl
theorem tb_byteEl_13 : byteEl Tryz.prog 13 = false := by kernel_rfl
theorem tb_fieldK_13_0 : fieldK Tryz.prog 13 0 = some (0, false, 1) := by kernel_rfl
theorem tb_fieldK_13_1 : fieldK Tryz.prog 13 1 = some (1, false, 1) := by kernel_rfl
theorem tb_tk_14 : tk Tryz.prog 14 = TK.other := by kernel_rfl
theorem tb_loadK_14 : loadK Tryz.prog 14 = some (true, 2) := by kernel_rfl
theorem tb_zeroK_14 : zeroK Tryz.prog 14 = some [Value.string ByteArray.empty, Value.int IntKind.u64 0] := by kernel_rfl
theorem tb_bytesK_14 : bytesK Tryz.prog 14 = some 24 := by kernel_rfl
theorem tb_sliceElem_14 : sliceElem Tryz.prog 14 = none := by kernel_rfl
theorem tb_arrElem_14 : arrElem Tryz.prog 14 = none := by kernel_rfl
theorem tb_placesK_14 : placesK Tryz.prog 14 = some [(0, 1), (1, 1)] := by kernel_rfl
theorem tb_byteEl_14 : byteEl Tryz.prog 14 = false := by kernel_rfl
theorem tb_fieldK_14_0 : fieldK Tryz.prog 14 0 = some (0, false, 1) := by kernel_rfl
theorem tb_fieldK_14_1 : fieldK Tryz.prog 14 1 = some (1, false, 1) := by kernel_rfl
theorem tb_tk_15 : tk Tryz.prog 15 = TK.ptr := by kernel_rfl
theorem tb_loadK_15 : loadK Tryz.prog 15 = some (false, 1) := by kernel_rfl
theorem tb_zeroK_15 : zeroK Tryz.prog 15 = some [Value.pointer none] := by kernel_rfl
theorem tb_bytesK_15 : bytesK Tryz.prog 15 = some 8 := by kernel_rfl
theorem tb_sliceElem_15 : sliceElem Tryz.prog 15 = none := by kernel_rfl
theorem tb_arrElem_15 : arrElem Tryz.prog 15 = none := by kernel_rfl
theorem tb_byteEl_15 : byteEl Tryz.prog 15 = false := by kernel_rfl
theorem tb_tk_16 : tk Tryz.prog 16 = TK.ptr := by kernel_rfl
theorem tb_loadK_16 : loadK Tryz.prog 16 = some (false, 1) := by kernel_rfl
theorem tb_zeroK_16 : zeroK Tryz.prog 16 = some [Value.pointer none] := by kernel_rfl
theorem tb_bytesK_16 : bytesK Tryz.prog 16 = some 8 := by kernel_rfl
theorem tb_sliceElem_16 : sliceElem Tryz.prog 16 = none := by kernel_rfl
theorem tb_arrElem_16 : arrElem Tryz.prog 16 = none := by kernel_rfl
theorem tb_byteEl_16 : byteEl Tryz.prog 16 = false := by kernel_rfl
theorem tb_tk_17 : tk Tryz.prog 17 = TK.ptr := by kernel_rfl
theorem tb_loadK_17 : loadK Tryz.prog 17 = some (false, 1) := by kernel_rfl
theorem tb_zeroK_17 : zeroK Tryz.prog 17 = some [Value.pointer none] := by kernel_rfl
theorem tb_bytesK_17 : bytesK Tryz.prog 17 = some 8 := by kernel_rfl
theorem tb_sliceElem_17 : sliceElem Tryz.prog 17 = none := by kernel_rfl
theorem tb_arrElem_17 : arrElem Tryz.prog 17 = none := by kernel_rfl
theorem tb_byteEl_17 : byteEl Tryz.prog 17 = false := by kernel_rfl
theorem tb_tk_18 : tk Tryz.prog 18 = TK.other := by kernel_rfl
theorem tb_loadK_18 : loadK Tryz.prog 18 = some (true, 1) := by kernel_rfl
theorem tb_zeroK_18 : zeroK Tryz.prog 18 = some [Value.pointer none] := by kernel_rfl
theorem tb_bytesK_18 : bytesK Tryz.prog 18 = some 8 := by kernel_rfl
theorem tb_sliceElem_18 : sliceElem Tryz.prog 18 = none := by kernel_rfl
theorem tb_arrElem_18 : arrElem Tryz.prog 18 = none := by kernel_rfl
theorem tb_placesK_18 : placesK Tryz.prog 18 = some [(0, 1)] := by kernel_rfl
theorem tb_byteEl_18 : byteEl Tryz.prog 18 = false := by kernel_rfl
theorem tb_fieldK_18_0 : fieldK Tryz.prog 18 0 = some (0, false, 1) := by kernel_rfl
theorem tb_tk_19 : tk Tryz.prog 19 = TK.other := by kernel_rfl
theorem tb_loadK_19 : loadK Tryz.prog 19 = some (true, 1) := by kernel_rfl
theorem tb_zeroK_19 : zeroK Tryz.prog 19 = some [Value.pointer none] := by kernel_rfl
theorem tb_bytesK_19 : bytesK Tryz.prog 19 = some 8 := by kernel_rfl
theorem tb_sliceElem_19 : sliceElem Tryz.prog 19 = none := by kernel_rfl
theorem tb_arrElem_19 : arrElem Tryz.prog 19 = none := by kernel_rfl
theorem tb_placesK_19 : placesK Tryz.prog 19 = some [(0, 1)] := by kernel_rfl
theorem tb_byteEl_19 : byteEl Tryz.prog 19 = false := by kernel_rfl
theorem tb_fieldK_19_0 : fieldK Tryz.prog 19 0 = some (0, false, 1) := by kernel_rfl
theorem tb_tk_20 : tk Tryz.prog 20 = TK.other := by kernel_rfl
theorem tb_loadK_20 : loadK Tryz.prog 20 = some (false, 1) := by kernel_rfl
theorem tb_zeroK_20 : zeroK Tryz.prog 20 = some [Value.nilIface] := by kernel_rfl
theorem tb_bytesK_20 : bytesK Tryz.prog 20 = some 16 := by kernel_rfl
theorem tb_sliceElem_20 : sliceElem Tryz.prog 20 = none := by kernel_rfl
theorem tb_arrElem_20 : arrElem Tryz.prog 20 = none := by kernel_rfl
theorem tb_byteEl_20 : byteEl Tryz.prog 20 = false := by kernel_rfl
theorem tb_tk_21 : tk Tryz.prog 21 = TK.int IntKind.i32 := by kernel_rfl
theorem tb_loadK_21 : loadK Tryz.prog 21 = some (false, 1) := by kernel_rfl
theorem tb_zeroK_21 : zeroK Tryz.prog 21 = some [Value.int IntKind.i32 0] := by kernel_rfl
theorem tb_bytesK_21 : bytesK Tryz.prog 21 = some 4 := by kernel_rfl
theorem tb_byteEl_21 : byteEl Tryz.prog 21 = false := by kernel_rfl
theorem tb_tk_22 : tk Tryz.prog 22 = TK.slc := by kernel_rfl
theorem tb_loadK_22 : loadK Tryz.prog 22 = some (false, 1) := by kernel_rfl
theorem tb_zeroK_22 : zeroK Tryz.prog 22 = some [Value.slice none 0 0] := by kernel_rfl
theorem tb_bytesK_22 : bytesK Tryz.prog 22 = some 24 := by kernel_rfl
theorem tb_sliceElem_22 : sliceElem Tryz.prog 22 = some (84, 2) := by kernel_rfl
theorem tb_arrElem_22 : arrElem Tryz.prog 22 = none := by kernel_rfl
theorem tb_byteEl_22 : byteEl Tryz.prog 22 = false := by kernel_rfl
theorem tb_tk_23 : tk Tryz.prog 23 = TK.other := by kernel_rfl
theorem tb_loadK_23 : loadK Tryz.prog 23 = some (true, 1) := by kernel_rfl
theorem tb_zeroK_23 : zeroK Tryz.prog 23 = some [Value.slice none 0 0] := by kernel_rfl
theorem tb_bytesK_23 : bytesK Tryz.prog 23 = some 24 := by kernel_rfl
theorem tb_sliceElem_23 : sliceElem Tryz.prog 23 = none := by kernel_rfl
theorem tb_arrElem_23 : arrElem Tryz.prog 23 = none := by kernel_rfl
theorem tb_placesK_23 : placesK Tryz.prog 23 = some [(0, 1)] := by kernel_rfl
theorem tb_byteEl_23 : byteEl Tryz.prog 23 = false := by kernel_rfl
theorem tb_fieldK_23_0 : fieldK Tryz.prog 23 0 = some (0, false, 1) := by kernel_rfl
theorem tb_tk_24 : tk Tryz.prog 24 = TK.other := by kernel_rfl
theorem tb_loadK_24 : loadK Tryz.prog 24 = some (true, 1) := by kernel_rfl
theorem tb_zeroK_24 : zeroK Tryz.prog 24 = some [Value.slice none 0 0] := by kernel_rfl
theorem tb_bytesK_24 : bytesK Tryz.prog 24 = some 24 := by kernel_rfl
theorem tb_sliceElem_24 : sliceElem Tryz.prog 24 = none := by kernel_rfl
theorem tb_arrElem_24 : arrElem Tryz.prog 24 = none := by kernel_rfl
theorem tb_placesK_24 : placesK Tryz.prog 24 = some [(0, 1)] := by kernel_rfl
theorem tb_byteEl_24 : byteEl Tryz.prog 24 = false := by kernel_rfl
theorem tb_fieldK_24_0 : fieldK Tryz.prog 24 0 = some (0, false, 1) := by kernel_rfl
theorem tb_tk_25 : tk Tryz.prog 25 = TK.slc := by kernel_rfl
theorem tb_loadK_25 : loadK Tryz.prog 25 = some (false, 1) := by kernel_rfl
theorem tb_zeroK_25 : zeroK Tryz.prog 25 = some [Value.slice none 0 0] := by kernel_rfl
theorem tb_bytesK_25 : bytesK Tryz.prog 25 = some 24 := by kernel_rfl
theorem tb_sliceElem_25 : sliceElem Tryz.prog 25 = some (97, 3) := by kernel_rfl
theorem tb_arrElem_25 : arrElem Tryz.prog 25 = none := by kernel_rfl
theorem tb_byteEl_25 : byteEl Tryz.prog 25 = false := by kernel_rfl
theorem tb_tk_26 : tk Tryz.prog 26 = TK.slc := by kernel_rfl
theorem tb_loadK_26 : loadK Tryz.prog 26 = some (false, 1) := by kernel_rfl
theorem tb_zeroK_26 : zeroK Tryz.prog 26 = some [Value.slice none 0 0] := by kernel_rfl
theorem tb_bytesK_26 : bytesK Tryz.prog 26 = some 24 := by kernel_rfl
theorem tb_sliceElem_26 : sliceElem Tryz.prog 26 = some (80, 4) := by kernel_rfl
theorem tb_arrElem_26 : arrElem Tryz.prog 26 = none := by kernel_rfl
theorem tb_byteEl_26 : byteEl Tryz.prog 26 = false := by kernel_rfl
theorem tb_tk_27 : tk Tryz.prog 27 = TK.slc := by kernel_rfl
theorem tb_loadK_27 : loadK Tryz.prog 27 = some (false, 1) := by kernel_rfl
theorem tb_zeroK_27 : zeroK Tryz.prog 27 = some [Value.slice none 0 0] := by kernel_rfl
theorem tb_bytesK_27 : bytesK Tryz.prog 27 = some 24 := by kernel_rfl
theorem tb_sliceElem_27 : sliceElem Tryz.prog 27 = some (59, 2) := by kernel_rfl
theorem tb_arrElem_27 : arrElem Tryz.prog 27 = none := by kernel_rfl
theorem tb_byteEl_27 : byteEl Tryz.prog 27 = false := by kernel_rfl
theorem tb_tk_28 : tk Tryz.prog 28 = TK.other := by kernel_rfl
theorem tb_loadK_28 : loadK Tryz.prog 28 = some (true, 4) := by kernel_rfl
theorem tb_zeroK_28 : zeroK Tryz.prog 28 = some [Value.slice none 0 0, Value.slice none 0 0, Value.slice none 0 0, Value.slice none 0 0] := by kernel_rfl
theorem tb_bytesK_28 : bytesK Tryz.prog 28 = some 96 := by kernel_rfl
theorem tb_sliceElem_28 : sliceElem Tryz.prog 28 = none := by kernel_rfl
theorem tb_arrElem_28 : arrElem Tryz.prog 28 = none := by kernel_rfl
theorem tb_placesK_28 : placesK Tryz.prog 28 = some [(0, 1), (1, 1), (2, 1), (3, 1)] := by kernel_rfl
theorem tb_byteEl_28 : byteEl Tryz.prog 28 = false := by kernel_rfl
theorem tb_fieldK_28_0 : fieldK Tryz.prog 28 0 = some (0, true, 1) := by kernel_rfl
theorem tb_fieldK_28_1 : fieldK Tryz.prog 28 1 = some (1, false, 1) := by kernel_rfl
theorem tb_fieldK_28_2 : fieldK Tryz.prog 28 2 = some (2, false, 1) := by kernel_rfl
theorem tb_fieldK_28_3 : fieldK Tryz.prog 28 3 = some (3, false, 1) := by kernel_rfl
theorem tb_tk_29 : tk Tryz.prog 29 = TK.other := by kernel_rfl
theorem tb_loadK_29 : loadK Tryz.prog 29 = some (true, 4) := by kernel_rfl
theorem tb_zeroK_29 : zeroK Tryz.prog 29 = some [Value.slice none 0 0, Value.slice none 0 0, Value.slice none 0 0, Value.slice none 0 0] := by kernel_rfl
theorem tb_bytesK_29 : bytesK Tryz.prog 29 = some 96 := by kernel_rfl
theorem tb_sliceElem_29 : sliceElem Tryz.prog 29 = none := by kernel_rfl
theorem tb_arrElem_29 : arrElem Tryz.prog 29 = none := by kernel_rfl
theorem tb_placesK_29 : placesK Tryz.prog 29 = some [(0, 1), (1, 1), (2, 1), (3, 1)] := by kernel_rfl
theorem tb_byteEl_29 : byteEl Tryz.prog 29 = false := by kernel_rfl
theorem tb_fieldK_29_0 : fieldK Tryz.prog 29 0 = some (0, true, 1) := by kernel_rfl
theorem tb_fieldK_29_1 : fieldK Tryz.prog 29 1 = some (1, false, 1) := by kernel_rfl
theorem tb_fieldK_29_2 : fieldK Tryz.prog 29 2 = some (2, false, 1) := by kernel_rfl
theorem tb_fieldK_29_3 : fieldK Tryz.prog 29 3 = some (3, false, 1) := by kernel_rfl
theorem tb_tk_30 : tk Tryz.prog 30 = TK.other := by kernel_rfl
theorem tb_loadK_30 : loadK Tryz.prog 30 = some (true, 2) := by kernel_rfl
theorem tb_zeroK_30 : zeroK Tryz.prog 30 = some [Value.int IntKind.i64 0, Value.int IntKind.u8 0] := by kernel_rfl
theorem tb_bytesK_30 : bytesK Tryz.prog 30 = some 16 := by kernel_rfl
theorem tb_sliceElem_30 : sliceElem Tryz.prog 30 = none := by kernel_rfl
theorem tb_arrElem_30 : arrElem Tryz.prog 30 = none := by kernel_rfl
theorem tb_placesK_30 : placesK Tryz.prog 30 = some [(0, 1), (1, 1)] := by kernel_rfl
theorem tb_byteEl_30 : byteEl Tryz.prog 30 = false := by kernel_rfl
theorem tb_flatK_30 : flatK Tryz.prog 30 = some [TypeDesc.int IntKind.i64, TypeDesc.int IntKind.u8] := by kernel_rfl
theorem tb_fieldK_30_0 : fieldK Tryz.prog 30 0 = some (0, false, 1) := by kernel_rfl
theorem tb_fieldK_30_1 : fieldK Tryz.prog 30 1 = some (1, false, 1) := by kernel_rfl
theorem tb_tk_31 : tk Tryz.prog 31 = TK.other := by kernel_rfl
theorem tb_loadK_31 : loadK Tryz.prog 31 = some (true, 2) := by kernel_rfl
theorem tb_zeroK_31 : zeroK Tryz.prog 31 = some [Value.int IntKind.i64 0, Value.int IntKind.u8 0] := by kernel_rfl
theorem tb_bytesK_31 : bytesK Tryz.prog 31 = some 16 := by kernel_rfl
theorem tb_sliceElem_31 : sliceElem Tryz.prog 31 = none := by kernel_rfl
theorem tb_arrElem_31 : arrElem Tryz.prog 31 = none := by kernel_rfl
theorem tb_placesK_31 : placesK Tryz.prog 31 = some [(0, 1), (1, 1)] := by kernel_rfl
theorem tb_byteEl_31 : byteEl Tryz.prog 31 = false := by kernel_rfl
theorem tb_flatK_31 : flatK Tryz.prog 31 = some [TypeDesc.int IntKind.i64, TypeDesc.int IntKind.u8] := by kernel_rfl
theorem tb_fieldK_31_0 : fieldK Tryz.prog 31 0 = some (0, false, 1) := by kernel_rfl
theorem tb_fieldK_31_1 : fieldK Tryz.prog 31 1 = some (1, false, 1) := by kernel_rfl
theorem tb_tk_32 : tk Tryz.prog 32 = TK.other := by kernel_rfl
theorem tb_loadK_32 : loadK Tryz.prog 32 = some (false, 1) := by kernel_rfl
theorem tb_zeroK_32 : zeroK Tryz.prog 32 = some [Value.nilFunc] := by kernel_rfl
theorem tb_bytesK_32 : bytesK Tryz.prog 32 = some 8 := by kernel_rfl
theorem tb_sliceElem_32 : sliceElem Tryz.prog 32 = none := by kernel_rfl
theorem tb_arrElem_32 : arrElem Tryz.prog 32 = none := by kernel_rfl
theorem tb_byteEl_32 : byteEl Tryz.prog 32 = false := by kernel_rfl
theorem tb_tk_33 : tk Tryz.prog 33 = TK.other := by kernel_rfl
theorem tb_loadK_33 : loadK Tryz.prog 33 = some (false, 1) := by kernel_rfl
theorem tb_zeroK_33 : zeroK Tryz.prog 33 = some [Value.nilFunc] := by kernel_rfl
theorem tb_bytesK_33 : bytesK Tryz.prog 33 = some 8 := by kernel_rfl
theorem tb_sliceElem_33 : sliceElem Tryz.prog 33 = none := by kernel_rfl
theorem tb_arrElem_33 : arrElem Tryz.prog 33 = none := by kernel_rfl
theorem tb_byteEl_33 : byteEl Tryz.prog 33 = false := by kernel_rfl
theorem tb_tk_34 : tk Tryz.prog 34 = TK.slc := by kernel_rfl
theorem tb_loadK_34 : loadK Tryz.prog 34 = some (false, 1) := by kernel_rfl
theorem tb_zeroK_34 : zeroK Tryz.prog 34 = some [Value.slice none 0 0] := by kernel_rfl
theorem tb_bytesK_34 : bytesK Tryz.prog 34 = some 24 := by kernel_rfl
theorem tb_sliceElem_34 : sliceElem Tryz.prog 34 = some (82, 3) := by kernel_rfl
theorem tb_arrElem_34 : arrElem Tryz.prog 34 = none := by kernel_rfl
theorem tb_byteEl_34 : byteEl Tryz.prog 34 = false := by kernel_rfl
theorem tb_tk_35 : tk Tryz.prog 35 = TK.int IntKind.i64 := by kernel_rfl
theorem tb_loadK_35 : loadK Tryz.prog 35 = some (false, 1) := by kernel_rfl
theorem tb_zeroK_35 : zeroK Tryz.prog 35 = some [Value.int IntKind.i64 0] := by kernel_rfl
theorem tb_bytesK_35 : bytesK Tryz.prog 35 = some 8 := by kernel_rfl
theorem tb_byteEl_35 : byteEl Tryz.prog 35 = false := by kernel_rfl
theorem tb_tk_36 : tk Tryz.prog 36 = TK.other := by kernel_rfl
theorem tb_loadK_36 : loadK Tryz.prog 36 = some (false, 1) := by kernel_rfl
theorem tb_zeroK_36 : zeroK Tryz.prog 36 = some [Value.tuple { toList := [Value.slice none 0 0, Value.int IntKind.i64 0] }] := by kernel_rfl
theorem tb_bytesK_36 : bytesK Tryz.prog 36 = some 0 := by kernel_rfl
theorem tb_sliceElem_36 : sliceElem Tryz.prog 36 = none := by kernel_rfl
theorem tb_arrElem_36 : arrElem Tryz.prog 36 = none := by kernel_rfl
theorem tb_byteEl_36 : byteEl Tryz.prog 36 = false := by kernel_rfl
theorem tb_tk_37 : tk Tryz.prog 37 = TK.other := by kernel_rfl
theorem tb_loadK_37 : loadK Tryz.prog 37 = some (false, 1) := by kernel_rfl
theorem tb_zeroK_37 : zeroK Tryz.prog 37 = some [Value.nilFunc] := by kernel_rfl
theorem tb_bytesK_37 : bytesK Tryz.prog 37 = some 8 := by kernel_rfl
theorem tb_sliceElem_37 : sliceElem Tryz.prog 37 = none := by kernel_rfl
theorem tb_arrElem_37 : arrElem Tryz.prog 37 = none := by kernel_rfl
theorem tb_byteEl_37 : byteEl Tryz.prog 37 = false := by kernel_rfl
theorem tb_tk_38 : tk Tryz.prog 38 = TK.other := by kernel_rfl
theorem tb_loadK_38 : loadK Tryz.prog 38 = some (false, 1) := by kernel_rfl
theorem tb_zeroK_38 : zeroK Tryz.prog 38 = some [Value.tuple { toList := [Value.slice none 0 0, Value.int IntKind.i64 0] }] := by kernel_rfl
theorem tb_bytesK_38 : bytesK Tryz.prog 38 = some 0 := by kernel_rfl
theorem tb_sliceElem_38 : sliceElem Tryz.prog 38 = none := by kernel_rfl
theorem tb_arrElem_38 : arrElem Tryz.prog 38 = none := by kernel_rfl
theorem tb_byteEl_38 : byteEl Tryz.prog 38 = false := by kernel_rfl
theorem tb_tk_40 : tk Tryz.prog 40 = TK.slc := by kernel_rfl
theorem tb_loadK_40 : loadK Tryz.prog 40 = some (false, 1) := by kernel_rfl
theorem tb_zeroK_40 : zeroK Tryz.prog 40 = some [Value.slice none 0 0] := by kernel_rfl
theorem tb_bytesK_40 : bytesK Tryz.prog 40 = some 24 := by kernel_rfl
theorem tb_sliceElem_40 : sliceElem Tryz.prog 40 = some (93, 6) := by kernel_rfl
theorem tb_arrElem_40 : arrElem Tryz.prog 40 = none := by kernel_rfl
theorem tb_byteEl_40 : byteEl Tryz.prog 40 = false := by kernel_rfl
theorem tb_tk_41 : tk Tryz.prog 41 = TK.other := by kernel_rfl
theorem tb_loadK_41 : loadK Tryz.prog 41 = some (false, 1) := by kernel_rfl
theorem tb_zeroK_41 : zeroK Tryz.prog 41 = some [Value.tuple { toList := [Value.slice none 0 0, Value.int IntKind.i64 0] }] := by kernel_rfl
theorem tb_bytesK_41 : bytesK Tryz.prog 41 = some 0 := by kernel_rfl
theorem tb_sliceElem_41 : sliceElem Tryz.prog 41 = none := by kernel_rfl
theorem tb_arrElem_41 : arrElem Tryz.prog 41 = none := by kernel_rfl
theorem tb_byteEl_41 : byteEl Tryz.prog 41 = false := by kernel_rfl
theorem tb_tk_43 : tk Tryz.prog 43 = TK.other := by kernel_rfl
theorem tb_loadK_43 : loadK Tryz.prog 43 = some (false, 1) := by kernel_rfl
theorem tb_zeroK_43 : zeroK Tryz.prog 43 = some [Value.tuple { toList := [Value.slice none 0 0, Value.int IntKind.i64 0] }] := by kernel_rfl
theorem tb_bytesK_43 : bytesK Tryz.prog 43 = some 0 := by kernel_rfl
theorem tb_sliceElem_43 : sliceElem Tryz.prog 43 = none := by kernel_rfl
theorem tb_arrElem_43 : arrElem Tryz.prog 43 = none := by kernel_rfl
theorem tb_byteEl_43 : byteEl Tryz.prog 43 = false := by kernel_rfl
theorem tb_tk_44 : tk Tryz.prog 44 = TK.other := by kernel_rfl
theorem tb_loadK_44 : loadK Tryz.prog 44 = some (false, 1) := by kernel_rfl
theorem tb_zeroK_44 : zeroK Tryz.prog 44 = some [Value.nilFunc] := by kernel_rfl
theorem tb_bytesK_44 : bytesK Tryz.prog 44 = some 8 := by kernel_rfl
theorem tb_sliceElem_44 : sliceElem Tryz.prog 44 = none := by kernel_rfl
theorem tb_arrElem_44 : arrElem Tryz.prog 44 = none := by kernel_rfl
theorem tb_byteEl_44 : byteEl Tryz.prog 44 = false := by kernel_rfl
theorem tb_tk_45 : tk Tryz.prog 45 = TK.slc := by kernel_rfl
theorem tb_loadK_45 : loadK Tryz.prog 45 = some (false, 1) := by kernel_rfl
theorem tb_zeroK_45 : zeroK Tryz.prog 45 = some [Value.slice none 0 0] := by kernel_rfl
theorem tb_bytesK_45 : bytesK Tryz.prog 45 = some 24 := by kernel_rfl
theorem tb_sliceElem_45 : sliceElem Tryz.prog 45 = some (3, 1) := by kernel_rfl
theorem tb_arrElem_45 : arrElem Tryz.prog 45 = none := by kernel_rfl
theorem tb_byteEl_45 : byteEl Tryz.prog 45 = false := by kernel_rfl
theorem tb_tk_46 : tk Tryz.prog 46 = TK.other := by kernel_rfl
theorem tb_loadK_46 : loadK Tryz.prog 46 = some (false, 1) := by kernel_rfl
theorem tb_zeroK_46 : zeroK Tryz.prog 46 = some [Value.tuple { toList := [Value.slice none 0 0, Value.int IntKind.i64 0, Value.int IntKind.i64 0] }] := by kernel_rfl
theorem tb_bytesK_46 : bytesK Tryz.prog 46 = some 0 := by kernel_rfl
theorem tb_sliceElem_46 : sliceElem Tryz.prog 46 = none := by kernel_rfl
theorem tb_arrElem_46 : arrElem Tryz.prog 46 = none := by kernel_rfl
theorem tb_byteEl_46 : byteEl Tryz.prog 46 = false := by kernel_rfl
theorem tb_tk_48 : tk Tryz.prog 48 = TK.other := by kernel_rfl
theorem tb_loadK_48 : loadK Tryz.prog 48 = some (false, 1) := by kernel_rfl
theorem tb_zeroK_48 : zeroK Tryz.prog 48 = some [Value.tuple { toList := [Value.slice none 0 0, Value.int IntKind.i64 0, Value.int IntKind.i64 0] }] := by kernel_rfl
theorem tb_bytesK_48 : bytesK Tryz.prog 48 = some 0 := by kernel_rfl
theorem tb_sliceElem_48 : sliceElem Tryz.prog 48 = none := by kernel_rfl
theorem tb_arrElem_48 : arrElem Tryz.prog 48 = none := by kernel_rfl
theorem tb_byteEl_48 : byteEl Tryz.prog 48 = false := by kernel_rfl
theorem tb_tk_52 : tk Tryz.prog 52 = TK.other := by kernel_rfl
theorem tb_loadK_52 : loadK Tryz.prog 52 = some (false, 1) := by kernel_rfl
theorem tb_zeroK_52 : zeroK Tryz.prog 52 = some [Value.nilFunc] := by kernel_rfl
theorem tb_bytesK_52 : bytesK Tryz.prog 52 = some 8 := by kernel_rfl
theorem tb_sliceElem_52 : sliceElem Tryz.prog 52 = none := by kernel_rfl
theorem tb_arrElem_52 : arrElem Tryz.prog 52 = none := by kernel_rfl
theorem tb_byteEl_52 : byteEl Tryz.prog 52 = false := by kernel_rfl
theorem tb_tk_54 : tk Tryz.prog 54 = TK.other := by kernel_rfl
theorem tb_loadK_54 : loadK Tryz.prog 54 = some (false, 1) := by kernel_rfl
theorem tb_zeroK_54 : zeroK Tryz.prog 54 = some [Value.nilFunc] := by kernel_rfl
theorem tb_bytesK_54 : bytesK Tryz.prog 54 = some 8 := by kernel_rfl
theorem tb_sliceElem_54 : sliceElem Tryz.prog 54 = none := by kernel_rfl
theorem tb_arrElem_54 : arrElem Tryz.prog 54 = none := by kernel_rfl
theorem tb_byteEl_54 : byteEl Tryz.prog 54 = false := by kernel_rfl
theorem tb_tk_57 : tk Tryz.prog 57 = TK.slc := by kernel_rfl
theorem tb_loadK_57 : loadK Tryz.prog 57 = some (false, 1) := by kernel_rfl
theorem tb_zeroK_57 : zeroK Tryz.prog 57 = some [Value.slice none 0 0] := by kernel_rfl
theorem tb_bytesK_57 : bytesK Tryz.prog 57 = some 24 := by kernel_rfl
theorem tb_sliceElem_57 : sliceElem Tryz.prog 57 = some (78, 1) := by kernel_rfl
theorem tb_arrElem_57 : arrElem Tryz.prog 57 = none := by kernel_rfl
theorem tb_byteEl_57 : byteEl Tryz.prog 57 = false := by kernel_rfl
theorem tb_tk_59 : tk Tryz.prog 59 = TK.other := by kernel_rfl
theorem tb_loadK_59 : loadK Tryz.prog 59 = some (true, 2) := by kernel_rfl
theorem tb_zeroK_59 : zeroK Tryz.prog 59 = some [Value.bool false, Value.slice none 0 0] := by kernel_rfl
theorem tb_bytesK_59 : bytesK Tryz.prog 59 = some 32 := by kernel_rfl
theorem tb_sliceElem_59 : sliceElem Tryz.prog 59 = none := by kernel_rfl
theorem tb_arrElem_59 : arrElem Tryz.prog 59 = none := by kernel_rfl
theorem tb_placesK_59 : placesK Tryz.prog 59 = some [(0, 1), (1, 1)] := by kernel_rfl
theorem tb_byteEl_59 : byteEl Tryz.prog 59 = false := by kernel_rfl
theorem tb_fieldK_59_0 : fieldK Tryz.prog 59 0 = some (0, false, 1) := by kernel_rfl
theorem tb_fieldK_59_1 : fieldK Tryz.prog 59 1 = some (1, false, 1) := by kernel_rfl
theorem tb_tk_60 : tk Tryz.prog 60 = TK.other := by kernel_rfl
theorem tb_loadK_60 : loadK Tryz.prog 60 = some (false, 1) := by kernel_rfl
theorem tb_zeroK_60 : zeroK Tryz.prog 60 = some [Value.nilFunc] := by kernel_rfl
theorem tb_bytesK_60 : bytesK Tryz.prog 60 = some 8 := by kernel_rfl
theorem tb_sliceElem_60 : sliceElem Tryz.prog 60 = none := by kernel_rfl
theorem tb_arrElem_60 : arrElem Tryz.prog 60 = none := by kernel_rfl
theorem tb_byteEl_60 : byteEl Tryz.prog 60 = false := by kernel_rfl
theorem tb_tk_62 : tk Tryz.prog 62 = TK.other := by kernel_rfl
theorem tb_loadK_62 : loadK Tryz.prog 62 = some (false, 1) := by kernel_rfl
theorem tb_zeroK_62 : zeroK Tryz.prog 62 = some [Value.tuple { toList := [Value.slice none 0 0, Value.int IntKind.i64 0] }] := by kernel_rfl
theorem tb_bytesK_62 : bytesK Tryz.prog 62 = some 0 := by kernel_rfl
theorem tb_sliceElem_62 : sliceElem Tryz.prog 62 = none := by kernel_rfl
theorem tb_arrElem_62 : arrElem Tryz.prog 62 = none := by kernel_rfl
theorem tb_byteEl_62 : byteEl Tryz.prog 62 = false := by kernel_rfl
theorem tb_tk_66 : tk Tryz.prog 66 = TK.other := by kernel_rfl
theorem tb_loadK_66 : loadK Tryz.prog 66 = some (false, 1) := by kernel_rfl
theorem tb_zeroK_66 : zeroK Tryz.prog 66 = some [Value.nilFunc] := by kernel_rfl
theorem tb_bytesK_66 : bytesK Tryz.prog 66 = some 8 := by kernel_rfl
theorem tb_sliceElem_66 : sliceElem Tryz.prog 66 = none := by kernel_rfl
theorem tb_arrElem_66 : arrElem Tryz.prog 66 = none := by kernel_rfl
theorem tb_byteEl_66 : byteEl Tryz.prog 66 = false := by kernel_rfl
theorem tb_tk_67 : tk Tryz.prog 67 = TK.slc := by kernel_rfl
theorem tb_loadK_67 : loadK Tryz.prog 67 = some (false, 1) := by kernel_rfl
theorem tb_zeroK_67 : zeroK Tryz.prog 67 = some [Value.slice none 0 0] := by kernel_rfl
theorem tb_bytesK_67 : bytesK Tryz.prog 67 = some 24 := by kernel_rfl
theorem tb_sliceElem_67 : sliceElem Tryz.prog 67 = some (73, 2) := by kernel_rfl
theorem tb_arrElem_67 : arrElem Tryz.prog 67 = none := by kernel_rfl
theorem tb_byteEl_67 : byteEl Tryz.prog 67 = false := by kernel_rfl
theorem tb_tk_68 : tk Tryz.prog 68 = TK.other := by kernel_rfl
theorem tb_loadK_68 : loadK Tryz.prog 68 = some (false, 1) := by kernel_rfl
theorem tb_zeroK_68 : zeroK Tryz.prog 68 = some [Value.tuple { toList := [Value.slice none 0 0, Value.int IntKind.i64 0] }] := by kernel_rfl
theorem tb_bytesK_68 : bytesK Tryz.prog 68 = some 0 := by kernel_rfl
theorem tb_sliceElem_68 : sliceElem Tryz.prog 68 = none := by kernel_rfl
theorem tb_arrElem_68 : arrElem Tryz.prog 68 = none := by kernel_rfl
theorem tb_byteEl_68 : byteEl Tryz.prog 68 = false := by kernel_rfl
theorem tb_tk_72 : tk Tryz.prog 72 = TK.other := by kernel_rfl
theorem tb_loadK_72 : loadK Tryz.prog 72 = some (false, 1) := by kernel_rfl
theorem tb_zeroK_72 : zeroK Tryz.prog 72 = some [Value.nilFunc] := by kernel_rfl
theorem tb_bytesK_72 : bytesK Tryz.prog 72 = some 8 := by kernel_rfl
theorem tb_sliceElem_72 : sliceElem Tryz.prog 72 = none := by kernel_rfl
theorem tb_arrElem_72 : arrElem Tryz.prog 72 = none := by kernel_rfl
theorem tb_byteEl_72 : byteEl Tryz.prog 72 = false := by kernel_rfl
theorem tb_tk_73 : tk Tryz.prog 73 = TK.other := by kernel_rfl
theorem tb_loadK_73 : loadK Tryz.prog 73 = some (true, 2) := by kernel_rfl
theorem tb_zeroK_73 : zeroK Tryz.prog 73 = some [Value.int IntKind.i64 0, Value.int IntKind.i64 0] := by kernel_rfl
theorem tb_bytesK_73 : bytesK Tryz.prog 73 = some 16 := by kernel_rfl
theorem tb_sliceElem_73 : sliceElem Tryz.prog 73 = none := by kernel_rfl
theorem tb_arrElem_73 : arrElem Tryz.prog 73 = some (2, 1) := by kernel_rfl
theorem tb_placesK_73 : placesK Tryz.prog 73 = some [(0, 1), (1, 1), (2, 1), (3, 1), (4, 1), (5, 1), (6, 1), (7, 1)] := by kernel_rfl
theorem tb_byteEl_73 : byteEl Tryz.prog 73 = false := by kernel_rfl
theorem tb_flatK_73 : flatK Tryz.prog 73 = some [TypeDesc.int IntKind.i64, TypeDesc.int IntKind.i64] := by kernel_rfl
theorem tb_arrLoad_73 : arrLoad Tryz.prog 73 = some (2, false, 1) := by kernel_rfl
theorem tb_tk_76 : tk Tryz.prog 76 = TK.other := by kernel_rfl
theorem tb_loadK_76 : loadK Tryz.prog 76 = some (false, 1) := by kernel_rfl
theorem tb_zeroK_76 : zeroK Tryz.prog 76 = some [Value.nilFunc] := by kernel_rfl
theorem tb_bytesK_76 : bytesK Tryz.prog 76 = some 8 := by kernel_rfl
theorem tb_sliceElem_76 : sliceElem Tryz.prog 76 = none := by kernel_rfl
theorem tb_arrElem_76 : arrElem Tryz.prog 76 = none := by kernel_rfl
theorem tb_byteEl_76 : byteEl Tryz.prog 76 = false := by kernel_rfl
theorem tb_tk_78 : tk Tryz.prog 78 = TK.slc := by kernel_rfl
theorem tb_loadK_78 : loadK Tryz.prog 78 = some (false, 1) := by kernel_rfl
theorem tb_zeroK_78 : zeroK Tryz.prog 78 = some [Value.slice none 0 0] := by kernel_rfl
theorem tb_bytesK_78 : bytesK Tryz.prog 78 = some 24 := by kernel_rfl
theorem tb_sliceElem_78 : sliceElem Tryz.prog 78 = some (9, 1) := by kernel_rfl
theorem tb_arrElem_78 : arrElem Tryz.prog 78 = none := by kernel_rfl
theorem tb_byteEl_78 : byteEl Tryz.prog 78 = false := by kernel_rfl
theorem tb_tk_80 : tk Tryz.prog 80 = TK.other := by kernel_rfl
theorem tb_loadK_80 : loadK Tryz.prog 80 = some (true, 4) := by kernel_rfl
theorem tb_zeroK_80 : zeroK Tryz.prog 80 = some [Value.int IntKind.i64 0, Value.int IntKind.i64 0, Value.int IntKind.i64 0, Value.int IntKind.i64 0] := by kernel_rfl
theorem tb_bytesK_80 : bytesK Tryz.prog 80 = some 32 := by kernel_rfl
theorem tb_sliceElem_80 : sliceElem Tryz.prog 80 = none := by kernel_rfl
theorem tb_arrElem_80 : arrElem Tryz.prog 80 = none := by kernel_rfl
theorem tb_placesK_80 : placesK Tryz.prog 80 = some [(0, 1), (1, 1), (2, 1), (3, 1)] := by kernel_rfl
theorem tb_byteEl_80 : byteEl Tryz.prog 80 = false := by kernel_rfl
theorem tb_flatK_80 : flatK Tryz.prog 80 = some [TypeDesc.int IntKind.i64, TypeDesc.int IntKind.i64, TypeDesc.int IntKind.i64, TypeDesc.int IntKind.i64] := by kernel_rfl
theorem tb_fieldK_80_0 : fieldK Tryz.prog 80 0 = some (0, false, 1) := by kernel_rfl
theorem tb_fieldK_80_1 : fieldK Tryz.prog 80 1 = some (1, false, 1) := by kernel_rfl
theorem tb_fieldK_80_2 : fieldK Tryz.prog 80 2 = some (2, false, 1) := by kernel_rfl
theorem tb_fieldK_80_3 : fieldK Tryz.prog 80 3 = some (3, false, 1) := by kernel_rfl
theorem tb_tk_82 : tk Tryz.prog 82 = TK.other := by kernel_rfl
theorem tb_loadK_82 : loadK Tryz.prog 82 = some (true, 3) := by kernel_rfl
theorem tb_zeroK_82 : zeroK Tryz.prog 82 = some [Value.int IntKind.u8 0, Value.int IntKind.i64 0, Value.int IntKind.i64 0] := by kernel_rfl
theorem tb_bytesK_82 : bytesK Tryz.prog 82 = some 24 := by kernel_rfl
theorem tb_sliceElem_82 : sliceElem Tryz.prog 82 = none := by kernel_rfl
theorem tb_arrElem_82 : arrElem Tryz.prog 82 = none := by kernel_rfl
theorem tb_placesK_82 : placesK Tryz.prog 82 = some [(0, 1), (1, 1), (2, 1)] := by kernel_rfl
theorem tb_byteEl_82 : byteEl Tryz.prog 82 = false := by kernel_rfl
theorem tb_flatK_82 : flatK Tryz.prog 82 = some [TypeDesc.int IntKind.u8, TypeDesc.int IntKind.i64, TypeDesc.int IntKind.i64] := by kernel_rfl
theorem tb_fieldK_82_0 : fieldK Tryz.prog 82 0 = some (0, false, 1) := by kernel_rfl
theorem tb_fieldK_82_1 : fieldK Tryz.prog 82 1 = some (1, false, 1) := by kernel_rfl
theorem tb_fieldK_82_2 : fieldK Tryz.prog 82 2 = some (2, false, 1) := by kernel_rfl
theorem tb_tk_84 : tk Tryz.prog 84 = TK.other := by kernel_rfl
theorem tb_loadK_84 : loadK Tryz.prog 84 = some (true, 2) := by kernel_rfl
theorem tb_zeroK_84 : zeroK Tryz.prog 84 = some [Value.int IntKind.i64 0, Value.slice none 0 0] := by kernel_rfl
theorem tb_bytesK_84 : bytesK Tryz.prog 84 = some 32 := by kernel_rfl
theorem tb_sliceElem_84 : sliceElem Tryz.prog 84 = none := by kernel_rfl
theorem tb_arrElem_84 : arrElem Tryz.prog 84 = none := by kernel_rfl
theorem tb_placesK_84 : placesK Tryz.prog 84 = some [(0, 1), (1, 1)] := by kernel_rfl
theorem tb_byteEl_84 : byteEl Tryz.prog 84 = false := by kernel_rfl
theorem tb_fieldK_84_0 : fieldK Tryz.prog 84 0 = some (0, false, 1) := by kernel_rfl
theorem tb_fieldK_84_1 : fieldK Tryz.prog 84 1 = some (1, false, 1) := by kernel_rfl
theorem tb_tk_85 : tk Tryz.prog 85 = TK.other := by kernel_rfl
theorem tb_loadK_85 : loadK Tryz.prog 85 = some (false, 1) := by kernel_rfl
theorem tb_zeroK_85 : zeroK Tryz.prog 85 = some [Value.tuple { toList := [Value.int IntKind.i64 0, Value.int IntKind.i64 0] }] := by kernel_rfl
theorem tb_bytesK_85 : bytesK Tryz.prog 85 = some 0 := by kernel_rfl
theorem tb_sliceElem_85 : sliceElem Tryz.prog 85 = none := by kernel_rfl
theorem tb_arrElem_85 : arrElem Tryz.prog 85 = none := by kernel_rfl
theorem tb_byteEl_85 : byteEl Tryz.prog 85 = false := by kernel_rfl
theorem tb_tk_87 : tk Tryz.prog 87 = TK.other := by kernel_rfl
theorem tb_loadK_87 : loadK Tryz.prog 87 = some (false, 1) := by kernel_rfl
theorem tb_zeroK_87 : zeroK Tryz.prog 87 = some [Value.nilFunc] := by kernel_rfl
theorem tb_bytesK_87 : bytesK Tryz.prog 87 = some 8 := by kernel_rfl
theorem tb_sliceElem_87 : sliceElem Tryz.prog 87 = none := by kernel_rfl
theorem tb_arrElem_87 : arrElem Tryz.prog 87 = none := by kernel_rfl
theorem tb_byteEl_87 : byteEl Tryz.prog 87 = false := by kernel_rfl
theorem tb_tk_91 : tk Tryz.prog 91 = TK.other := by kernel_rfl
theorem tb_loadK_91 : loadK Tryz.prog 91 = some (true, 3) := by kernel_rfl
theorem tb_zeroK_91 : zeroK Tryz.prog 91 = some [Value.int IntKind.i64 0, Value.int IntKind.i64 0, Value.int IntKind.i64 0] := by kernel_rfl
theorem tb_bytesK_91 : bytesK Tryz.prog 91 = some 24 := by kernel_rfl
theorem tb_sliceElem_91 : sliceElem Tryz.prog 91 = none := by kernel_rfl
theorem tb_arrElem_91 : arrElem Tryz.prog 91 = none := by kernel_rfl
theorem tb_placesK_91 : placesK Tryz.prog 91 = some [(0, 1), (1, 1), (2, 1)] := by kernel_rfl
theorem tb_byteEl_91 : byteEl Tryz.prog 91 = false := by kernel_rfl
theorem tb_flatK_91 : flatK Tryz.prog 91 = some [TypeDesc.int IntKind.i64, TypeDesc.int IntKind.i64, TypeDesc.int IntKind.i64] := by kernel_rfl
theorem tb_fieldK_91_0 : fieldK Tryz.prog 91 0 = some (0, false, 1) := by kernel_rfl
theorem tb_fieldK_91_1 : fieldK Tryz.prog 91 1 = some (1, false, 1) := by kernel_rfl
theorem tb_fieldK_91_2 : fieldK Tryz.prog 91 2 = some (2, false, 1) := by kernel_rfl
theorem tb_tk_93 : tk Tryz.prog 93 = TK.other := by kernel_rfl
theorem tb_loadK_93 : loadK Tryz.prog 93 = some (true, 6) := by kernel_rfl
theorem tb_zeroK_93 : zeroK Tryz.prog 93 = some [Value.int IntKind.i64 0, Value.int IntKind.i64 0, Value.int IntKind.i64 0, Value.string ByteArray.empty, Value.string ByteArray.empty, Value.string ByteArray.empty] := by kernel_rfl
theorem tb_bytesK_93 : bytesK Tryz.prog 93 = some 72 := by kernel_rfl
theorem tb_sliceElem_93 : sliceElem Tryz.prog 93 = none := by kernel_rfl
theorem tb_arrElem_93 : arrElem Tryz.prog 93 = none := by kernel_rfl
theorem tb_placesK_93 : placesK Tryz.prog 93 = some [(0, 3), (3, 1), (4, 1), (5, 1)] := by kernel_rfl
theorem tb_byteEl_93 : byteEl Tryz.prog 93 = false := by kernel_rfl
theorem tb_flatK_93 : flatK Tryz.prog 93 = some [TypeDesc.int IntKind.i64, TypeDesc.int IntKind.i64, TypeDesc.int IntKind.i64, TypeDesc.string, TypeDesc.string, TypeDesc.string] := by kernel_rfl
theorem tb_fieldK_93_0 : fieldK Tryz.prog 93 0 = some (0, true, 3) := by kernel_rfl
theorem tb_fieldK_93_1 : fieldK Tryz.prog 93 1 = some (3, false, 1) := by kernel_rfl
theorem tb_fieldK_93_2 : fieldK Tryz.prog 93 2 = some (4, false, 1) := by kernel_rfl
theorem tb_fieldK_93_3 : fieldK Tryz.prog 93 3 = some (5, false, 1) := by kernel_rfl
theorem tb_tk_97 : tk Tryz.prog 97 = TK.other := by kernel_rfl
theorem tb_loadK_97 : loadK Tryz.prog 97 = some (true, 3) := by kernel_rfl
theorem tb_zeroK_97 : zeroK Tryz.prog 97 = some [Value.int IntKind.i64 0, Value.int IntKind.i64 0, Value.int IntKind.i64 0] := by kernel_rfl
theorem tb_bytesK_97 : bytesK Tryz.prog 97 = some 24 := by kernel_rfl
theorem tb_sliceElem_97 : sliceElem Tryz.prog 97 = none := by kernel_rfl
theorem tb_arrElem_97 : arrElem Tryz.prog 97 = none := by kernel_rfl
theorem tb_placesK_97 : placesK Tryz.prog 97 = some [(0, 1), (1, 1), (2, 1)] := by kernel_rfl
theorem tb_byteEl_97 : byteEl Tryz.prog 97 = false := by kernel_rfl
theorem tb_flatK_97 : flatK Tryz.prog 97 = some [TypeDesc.int IntKind.i64, TypeDesc.int IntKind.i64, TypeDesc.int IntKind.i64] := by kernel_rfl
theorem tb_fieldK_97_0 : fieldK Tryz.prog 97 0 = some (0, false, 1) := by kernel_rfl
theorem tb_fieldK_97_1 : fieldK Tryz.prog 97 1 = some (1, false, 1) := by kernel_rfl
theorem tb_fieldK_97_2 : fieldK Tryz.prog 97 2 = some (2, false, 1) := by kernel_rfl
theorem tb_tk_101 : tk Tryz.prog 101 = TK.other := by kernel_rfl
theorem tb_loadK_101 : loadK Tryz.prog 101 = some (false, 1) := by kernel_rfl
theorem tb_zeroK_101 : zeroK Tryz.prog 101 = some [Value.nilFunc] := by kernel_rfl
theorem tb_bytesK_101 : bytesK Tryz.prog 101 = some 8 := by kernel_rfl
theorem tb_sliceElem_101 : sliceElem Tryz.prog 101 = none := by kernel_rfl
theorem tb_arrElem_101 : arrElem Tryz.prog 101 = none := by kernel_rfl
theorem tb_byteEl_101 : byteEl Tryz.prog 101 = false := by kernel_rfl
theorem tb_tk_115 : tk Tryz.prog 115 = TK.ptr := by kernel_rfl
theorem tb_loadK_115 : loadK Tryz.prog 115 = some (false, 1) := by kernel_rfl
theorem tb_zeroK_115 : zeroK Tryz.prog 115 = some [Value.pointer none] := by kernel_rfl
theorem tb_bytesK_115 : bytesK Tryz.prog 115 = some 8 := by kernel_rfl
theorem tb_sliceElem_115 : sliceElem Tryz.prog 115 = none := by kernel_rfl
theorem tb_arrElem_115 : arrElem Tryz.prog 115 = none := by kernel_rfl
theorem tb_byteEl_115 : byteEl Tryz.prog 115 = false := by kernel_rfl
theorem tb_tk_116 : tk Tryz.prog 116 = TK.other := by kernel_rfl
theorem tb_loadK_116 : loadK Tryz.prog 116 = some (false, 1) := by kernel_rfl
theorem tb_zeroK_116 : zeroK Tryz.prog 116 = some [Value.tuple { toList := [Value.pointer none, Value.int IntKind.i64 0] }] := by kernel_rfl
theorem tb_bytesK_116 : bytesK Tryz.prog 116 = some 0 := by kernel_rfl
theorem tb_sliceElem_116 : sliceElem Tryz.prog 116 = none := by kernel_rfl
theorem tb_arrElem_116 : arrElem Tryz.prog 116 = none := by kernel_rfl
theorem tb_byteEl_116 : byteEl Tryz.prog 116 = false := by kernel_rfl
theorem tb_tk_118 : tk Tryz.prog 118 = TK.slc := by kernel_rfl
theorem tb_loadK_118 : loadK Tryz.prog 118 = some (false, 1) := by kernel_rfl
theorem tb_zeroK_118 : zeroK Tryz.prog 118 = some [Value.slice none 0 0] := by kernel_rfl
theorem tb_bytesK_118 : bytesK Tryz.prog 118 = some 24 := by kernel_rfl
theorem tb_sliceElem_118 : sliceElem Tryz.prog 118 = some (91, 3) := by kernel_rfl
theorem tb_arrElem_118 : arrElem Tryz.prog 118 = none := by kernel_rfl
theorem tb_byteEl_118 : byteEl Tryz.prog 118 = false := by kernel_rfl
theorem tb_tk_120 : tk Tryz.prog 120 = TK.other := by kernel_rfl
theorem tb_loadK_120 : loadK Tryz.prog 120 = some (true, 6) := by kernel_rfl
theorem tb_zeroK_120 : zeroK Tryz.prog 120 = some [Value.slice none 0 0, Value.slice none 0 0, Value.slice none 0 0, Value.slice none 0 0, Value.slice none 0 0, Value.slice none 0 0] := by kernel_rfl
theorem tb_bytesK_120 : bytesK Tryz.prog 120 = some 144 := by kernel_rfl
theorem tb_sliceElem_120 : sliceElem Tryz.prog 120 = none := by kernel_rfl
theorem tb_arrElem_120 : arrElem Tryz.prog 120 = none := by kernel_rfl
theorem tb_placesK_120 : placesK Tryz.prog 120 = some [(0, 4), (4, 1), (5, 1)] := by kernel_rfl
theorem tb_byteEl_120 : byteEl Tryz.prog 120 = false := by kernel_rfl
theorem tb_fieldK_120_0 : fieldK Tryz.prog 120 0 = some (0, true, 4) := by kernel_rfl
theorem tb_fieldK_120_1 : fieldK Tryz.prog 120 1 = some (4, false, 1) := by kernel_rfl
theorem tb_fieldK_120_2 : fieldK Tryz.prog 120 2 = some (5, false, 1) := by kernel_rfl
theorem tb_tk_121 : tk Tryz.prog 121 = TK.other := by kernel_rfl
theorem tb_loadK_121 : loadK Tryz.prog 121 = some (false, 1) := by kernel_rfl
theorem tb_zeroK_121 : zeroK Tryz.prog 121 = some [Value.nilFunc] := by kernel_rfl
theorem tb_bytesK_121 : bytesK Tryz.prog 121 = some 8 := by kernel_rfl
theorem tb_sliceElem_121 : sliceElem Tryz.prog 121 = none := by kernel_rfl
theorem tb_arrElem_121 : arrElem Tryz.prog 121 = none := by kernel_rfl
theorem tb_byteEl_121 : byteEl Tryz.prog 121 = false := by kernel_rfl
theorem tb_tk_122 : tk Tryz.prog 122 = TK.other := by kernel_rfl
theorem tb_loadK_122 : loadK Tryz.prog 122 = some (false, 1) := by kernel_rfl
theorem tb_zeroK_122 : zeroK Tryz.prog 122 = some [Value.nilFunc] := by kernel_rfl
theorem tb_bytesK_122 : bytesK Tryz.prog 122 = some 8 := by kernel_rfl
theorem tb_sliceElem_122 : sliceElem Tryz.prog 122 = none := by kernel_rfl
theorem tb_arrElem_122 : arrElem Tryz.prog 122 = none := by kernel_rfl
theorem tb_byteEl_122 : byteEl Tryz.prog 122 = false := by kernel_rfl
theorem tb_tk_127 : tk Tryz.prog 127 = TK.slc := by kernel_rfl
theorem tb_loadK_127 : loadK Tryz.prog 127 = some (false, 1) := by kernel_rfl
theorem tb_zeroK_127 : zeroK Tryz.prog 127 = some [Value.slice none 0 0] := by kernel_rfl
theorem tb_bytesK_127 : bytesK Tryz.prog 127 = some 24 := by kernel_rfl
theorem tb_sliceElem_127 : sliceElem Tryz.prog 127 = some (67, 1) := by kernel_rfl
theorem tb_arrElem_127 : arrElem Tryz.prog 127 = none := by kernel_rfl
theorem tb_byteEl_127 : byteEl Tryz.prog 127 = false := by kernel_rfl
theorem tb_tk_133 : tk Tryz.prog 133 = TK.mp := by kernel_rfl
theorem tb_loadK_133 : loadK Tryz.prog 133 = some (false, 1) := by kernel_rfl
theorem tb_zeroK_133 : zeroK Tryz.prog 133 = some [Value.map none] := by kernel_rfl
theorem tb_bytesK_133 : bytesK Tryz.prog 133 = some 8 := by kernel_rfl
theorem tb_byteEl_133 : byteEl Tryz.prog 133 = false := by kernel_rfl
theorem tb_mapK_133 : mapK Tryz.prog 133 = some (KD.int IntKind.i64, V.v (Value.bool false)) := by kernel_rfl
theorem tb_tk_135 : tk Tryz.prog 135 = TK.other := by kernel_rfl
theorem tb_loadK_135 : loadK Tryz.prog 135 = some (false, 1) := by kernel_rfl
theorem tb_zeroK_135 : zeroK Tryz.prog 135 = some [Value.tuple { toList := [Value.agg { toList := [Value.int IntKind.i64 0, Value.int IntKind.i64 0, Value.int IntKind.i64 0, Value.string ByteArray.empty, Value.string ByteArray.empty, Value.string ByteArray.empty] }, Value.int IntKind.i64 0] }] := by kernel_rfl
theorem tb_bytesK_135 : bytesK Tryz.prog 135 = some 0 := by kernel_rfl
theorem tb_sliceElem_135 : sliceElem Tryz.prog 135 = none := by kernel_rfl
theorem tb_arrElem_135 : arrElem Tryz.prog 135 = none := by kernel_rfl
theorem tb_byteEl_135 : byteEl Tryz.prog 135 = false := by kernel_rfl
theorem tb_tk_141 : tk Tryz.prog 141 = TK.other := by kernel_rfl
theorem tb_loadK_141 : loadK Tryz.prog 141 = some (false, 1) := by kernel_rfl
theorem tb_zeroK_141 : zeroK Tryz.prog 141 = some [Value.nilFunc] := by kernel_rfl
theorem tb_bytesK_141 : bytesK Tryz.prog 141 = some 8 := by kernel_rfl
theorem tb_sliceElem_141 : sliceElem Tryz.prog 141 = none := by kernel_rfl
theorem tb_arrElem_141 : arrElem Tryz.prog 141 = none := by kernel_rfl
theorem tb_byteEl_141 : byteEl Tryz.prog 141 = false := by kernel_rfl
theorem tb_tk_143 : tk Tryz.prog 143 = TK.other := by kernel_rfl
theorem tb_loadK_143 : loadK Tryz.prog 143 = some (false, 1) := by kernel_rfl
theorem tb_zeroK_143 : zeroK Tryz.prog 143 = some [Value.nilFunc] := by kernel_rfl
theorem tb_bytesK_143 : bytesK Tryz.prog 143 = some 8 := by kernel_rfl
theorem tb_sliceElem_143 : sliceElem Tryz.prog 143 = none := by kernel_rfl
theorem tb_arrElem_143 : arrElem Tryz.prog 143 = none := by kernel_rfl
theorem tb_byteEl_143 : byteEl Tryz.prog 143 = false := by kernel_rfl
theorem tb_tk_144 : tk Tryz.prog 144 = TK.other := by kernel_rfl
theorem tb_loadK_144 : loadK Tryz.prog 144 = some (false, 1) := by kernel_rfl
theorem tb_zeroK_144 : zeroK Tryz.prog 144 = some [Value.nilFunc] := by kernel_rfl
theorem tb_bytesK_144 : bytesK Tryz.prog 144 = some 8 := by kernel_rfl
theorem tb_sliceElem_144 : sliceElem Tryz.prog 144 = none := by kernel_rfl
theorem tb_arrElem_144 : arrElem Tryz.prog 144 = none := by kernel_rfl
theorem tb_byteEl_144 : byteEl Tryz.prog 144 = false := by kernel_rfl
theorem tb_tk_146 : tk Tryz.prog 146 = TK.other := by kernel_rfl
theorem tb_loadK_146 : loadK Tryz.prog 146 = some (false, 1) := by kernel_rfl
theorem tb_zeroK_146 : zeroK Tryz.prog 146 = some [Value.nilFunc] := by kernel_rfl
theorem tb_bytesK_146 : bytesK Tryz.prog 146 = some 8 := by kernel_rfl
theorem tb_sliceElem_146 : sliceElem Tryz.prog 146 = none := by kernel_rfl
theorem tb_arrElem_146 : arrElem Tryz.prog 146 = none := by kernel_rfl
theorem tb_byteEl_146 : byteEl Tryz.prog 146 = false := by kernel_rfl
theorem tb_tk_155 : tk Tryz.prog 155 = TK.slc := by kernel_rfl
theorem tb_loadK_155 : loadK Tryz.prog 155 = some (false, 1) := by kernel_rfl
theorem tb_zeroK_155 : zeroK Tryz.prog 155 = some [Value.slice none 0 0] := by kernel_rfl
theorem tb_bytesK_155 : bytesK Tryz.prog 155 = some 24 := by kernel_rfl
theorem tb_sliceElem_155 : sliceElem Tryz.prog 155 = some (234, 5) := by kernel_rfl
theorem tb_arrElem_155 : arrElem Tryz.prog 155 = none := by kernel_rfl
theorem tb_byteEl_155 : byteEl Tryz.prog 155 = false := by kernel_rfl
theorem tb_tk_158 : tk Tryz.prog 158 = TK.other := by kernel_rfl
theorem tb_loadK_158 : loadK Tryz.prog 158 = some (false, 1) := by kernel_rfl
theorem tb_zeroK_158 : zeroK Tryz.prog 158 = some [Value.nilFunc] := by kernel_rfl
theorem tb_bytesK_158 : bytesK Tryz.prog 158 = some 8 := by kernel_rfl
theorem tb_sliceElem_158 : sliceElem Tryz.prog 158 = none := by kernel_rfl
theorem tb_arrElem_158 : arrElem Tryz.prog 158 = none := by kernel_rfl
theorem tb_byteEl_158 : byteEl Tryz.prog 158 = false := by kernel_rfl
theorem tb_tk_169 : tk Tryz.prog 169 = TK.other := by kernel_rfl
theorem tb_loadK_169 : loadK Tryz.prog 169 = some (false, 1) := by kernel_rfl
theorem tb_zeroK_169 : zeroK Tryz.prog 169 = some [Value.nilFunc] := by kernel_rfl
theorem tb_bytesK_169 : bytesK Tryz.prog 169 = some 8 := by kernel_rfl
theorem tb_sliceElem_169 : sliceElem Tryz.prog 169 = none := by kernel_rfl
theorem tb_arrElem_169 : arrElem Tryz.prog 169 = none := by kernel_rfl
theorem tb_byteEl_169 : byteEl Tryz.prog 169 = false := by kernel_rfl
theorem tb_tk_170 : tk Tryz.prog 170 = TK.mp := by kernel_rfl
theorem tb_loadK_170 : loadK Tryz.prog 170 = some (false, 1) := by kernel_rfl
theorem tb_zeroK_170 : zeroK Tryz.prog 170 = some [Value.map none] := by kernel_rfl
theorem tb_bytesK_170 : bytesK Tryz.prog 170 = some 8 := by kernel_rfl
theorem tb_byteEl_170 : byteEl Tryz.prog 170 = false := by kernel_rfl
theorem tb_mapK_170 : mapK Tryz.prog 170 = some (KD.agg [TypeDesc.int IntKind.i64, TypeDesc.int IntKind.i64, TypeDesc.bool], V.v (Value.int IntKind.i64 0)) := by kernel_rfl
theorem tb_tk_171 : tk Tryz.prog 171 = TK.other := by kernel_rfl
theorem tb_loadK_171 : loadK Tryz.prog 171 = some (false, 1) := by kernel_rfl
theorem tb_zeroK_171 : zeroK Tryz.prog 171 = some [Value.nilFunc] := by kernel_rfl
theorem tb_bytesK_171 : bytesK Tryz.prog 171 = some 8 := by kernel_rfl
theorem tb_sliceElem_171 : sliceElem Tryz.prog 171 = none := by kernel_rfl
theorem tb_arrElem_171 : arrElem Tryz.prog 171 = none := by kernel_rfl
theorem tb_byteEl_171 : byteEl Tryz.prog 171 = false := by kernel_rfl
theorem tb_tk_173 : tk Tryz.prog 173 = TK.other := by kernel_rfl
theorem tb_loadK_173 : loadK Tryz.prog 173 = some (true, 3) := by kernel_rfl
theorem tb_zeroK_173 : zeroK Tryz.prog 173 = some [Value.int IntKind.i64 0, Value.int IntKind.i64 0, Value.bool false] := by kernel_rfl
theorem tb_bytesK_173 : bytesK Tryz.prog 173 = some 24 := by kernel_rfl
theorem tb_sliceElem_173 : sliceElem Tryz.prog 173 = none := by kernel_rfl
theorem tb_arrElem_173 : arrElem Tryz.prog 173 = none := by kernel_rfl
theorem tb_placesK_173 : placesK Tryz.prog 173 = some [(0, 1), (1, 1), (2, 1)] := by kernel_rfl
theorem tb_byteEl_173 : byteEl Tryz.prog 173 = false := by kernel_rfl
theorem tb_flatK_173 : flatK Tryz.prog 173 = some [TypeDesc.int IntKind.i64, TypeDesc.int IntKind.i64, TypeDesc.bool] := by kernel_rfl
theorem tb_fieldK_173_0 : fieldK Tryz.prog 173 0 = some (0, false, 1) := by kernel_rfl
theorem tb_fieldK_173_1 : fieldK Tryz.prog 173 1 = some (1, false, 1) := by kernel_rfl
theorem tb_fieldK_173_2 : fieldK Tryz.prog 173 2 = some (2, false, 1) := by kernel_rfl
theorem tb_tk_174 : tk Tryz.prog 174 = TK.other := by kernel_rfl
theorem tb_loadK_174 : loadK Tryz.prog 174 = some (false, 1) := by kernel_rfl
theorem tb_zeroK_174 : zeroK Tryz.prog 174 = some [Value.tuple { toList := [Value.int IntKind.i64 0, Value.bool false] }] := by kernel_rfl
theorem tb_bytesK_174 : bytesK Tryz.prog 174 = some 0 := by kernel_rfl
theorem tb_sliceElem_174 : sliceElem Tryz.prog 174 = none := by kernel_rfl
theorem tb_arrElem_174 : arrElem Tryz.prog 174 = none := by kernel_rfl
theorem tb_byteEl_174 : byteEl Tryz.prog 174 = false := by kernel_rfl
theorem tb_tk_175 : tk Tryz.prog 175 = TK.other := by kernel_rfl
theorem tb_loadK_175 : loadK Tryz.prog 175 = some (false, 1) := by kernel_rfl
theorem tb_zeroK_175 : zeroK Tryz.prog 175 = some [Value.nilFunc] := by kernel_rfl
theorem tb_bytesK_175 : bytesK Tryz.prog 175 = some 8 := by kernel_rfl
theorem tb_sliceElem_175 : sliceElem Tryz.prog 175 = none := by kernel_rfl
theorem tb_arrElem_175 : arrElem Tryz.prog 175 = none := by kernel_rfl
theorem tb_byteEl_175 : byteEl Tryz.prog 175 = false := by kernel_rfl
theorem tb_tk_177 : tk Tryz.prog 177 = TK.other := by kernel_rfl
theorem tb_loadK_177 : loadK Tryz.prog 177 = some (true, 2) := by kernel_rfl
theorem tb_zeroK_177 : zeroK Tryz.prog 177 = some [Value.int IntKind.u8 0, Value.nilFunc] := by kernel_rfl
theorem tb_bytesK_177 : bytesK Tryz.prog 177 = some 16 := by kernel_rfl
theorem tb_sliceElem_177 : sliceElem Tryz.prog 177 = none := by kernel_rfl
theorem tb_arrElem_177 : arrElem Tryz.prog 177 = none := by kernel_rfl
theorem tb_placesK_177 : placesK Tryz.prog 177 = some [(0, 1), (1, 1)] := by kernel_rfl
theorem tb_byteEl_177 : byteEl Tryz.prog 177 = false := by kernel_rfl
theorem tb_fieldK_177_0 : fieldK Tryz.prog 177 0 = some (0, false, 1) := by kernel_rfl
theorem tb_fieldK_177_1 : fieldK Tryz.prog 177 1 = some (1, false, 1) := by kernel_rfl
theorem tb_tk_178 : tk Tryz.prog 178 = TK.other := by kernel_rfl
theorem tb_loadK_178 : loadK Tryz.prog 178 = some (true, 6) := by kernel_rfl
theorem tb_zeroK_178 : zeroK Tryz.prog 178 = some [Value.int IntKind.u8 0, Value.nilFunc, Value.int IntKind.u8 0, Value.nilFunc, Value.int IntKind.u8 0, Value.nilFunc] := by kernel_rfl
theorem tb_bytesK_178 : bytesK Tryz.prog 178 = some 48 := by kernel_rfl
theorem tb_sliceElem_178 : sliceElem Tryz.prog 178 = none := by kernel_rfl
theorem tb_arrElem_178 : arrElem Tryz.prog 178 = some (3, 2) := by kernel_rfl
theorem tb_placesK_178 : placesK Tryz.prog 178 = some [(0, 2), (2, 2), (4, 2), (6, 2), (8, 2), (10, 2), (12, 2), (14, 2)] := by kernel_rfl
theorem tb_byteEl_178 : byteEl Tryz.prog 178 = false := by kernel_rfl
theorem tb_arrLoad_178 : arrLoad Tryz.prog 178 = some (3, true, 2) := by kernel_rfl
theorem tb_tk_179 : tk Tryz.prog 179 = TK.other := by kernel_rfl
theorem tb_loadK_179 : loadK Tryz.prog 179 = some (false, 1) := by kernel_rfl
theorem tb_zeroK_179 : zeroK Tryz.prog 179 = some [Value.tuple { toList := [Value.int IntKind.i64 0, Value.agg { toList := [Value.int IntKind.i64 0, Value.int IntKind.i64 0, Value.bool false] }, Value.bool false] }] := by kernel_rfl
theorem tb_bytesK_179 : bytesK Tryz.prog 179 = some 0 := by kernel_rfl
theorem tb_sliceElem_179 : sliceElem Tryz.prog 179 = none := by kernel_rfl
theorem tb_arrElem_179 : arrElem Tryz.prog 179 = none := by kernel_rfl
theorem tb_byteEl_179 : byteEl Tryz.prog 179 = false := by kernel_rfl
theorem tb_tk_181 : tk Tryz.prog 181 = TK.slc := by kernel_rfl
theorem tb_loadK_181 : loadK Tryz.prog 181 = some (false, 1) := by kernel_rfl
theorem tb_zeroK_181 : zeroK Tryz.prog 181 = some [Value.slice none 0 0] := by kernel_rfl
theorem tb_bytesK_181 : bytesK Tryz.prog 181 = some 24 := by kernel_rfl
theorem tb_sliceElem_181 : sliceElem Tryz.prog 181 = some (45, 1) := by kernel_rfl
theorem tb_arrElem_181 : arrElem Tryz.prog 181 = none := by kernel_rfl
theorem tb_byteEl_181 : byteEl Tryz.prog 181 = false := by kernel_rfl
theorem tb_tk_188 : tk Tryz.prog 188 = TK.other := by kernel_rfl
theorem tb_loadK_188 : loadK Tryz.prog 188 = some (false, 1) := by kernel_rfl
theorem tb_zeroK_188 : zeroK Tryz.prog 188 = some [Value.tuple { toList := [Value.agg { toList := [Value.int IntKind.i64 0, Value.int IntKind.i64 0, Value.int IntKind.i64 0, Value.string ByteArray.empty, Value.string ByteArray.empty, Value.string ByteArray.empty] }, Value.bool false] }] := by kernel_rfl
theorem tb_bytesK_188 : bytesK Tryz.prog 188 = some 0 := by kernel_rfl
theorem tb_sliceElem_188 : sliceElem Tryz.prog 188 = none := by kernel_rfl
theorem tb_arrElem_188 : arrElem Tryz.prog 188 = none := by kernel_rfl
theorem tb_byteEl_188 : byteEl Tryz.prog 188 = false := by kernel_rfl
theorem tb_tk_200 : tk Tryz.prog 200 = TK.other := by kernel_rfl
theorem tb_loadK_200 : loadK Tryz.prog 200 = some (false, 1) := by kernel_rfl
theorem tb_zeroK_200 : zeroK Tryz.prog 200 = some [Value.nilFunc] := by kernel_rfl
theorem tb_bytesK_200 : bytesK Tryz.prog 200 = some 8 := by kernel_rfl
theorem tb_sliceElem_200 : sliceElem Tryz.prog 200 = none := by kernel_rfl
theorem tb_arrElem_200 : arrElem Tryz.prog 200 = none := by kernel_rfl
theorem tb_byteEl_200 : byteEl Tryz.prog 200 = false := by kernel_rfl
theorem tb_tk_204 : tk Tryz.prog 204 = TK.slc := by kernel_rfl
theorem tb_loadK_204 : loadK Tryz.prog 204 = some (false, 1) := by kernel_rfl
theorem tb_zeroK_204 : zeroK Tryz.prog 204 = some [Value.slice none 0 0] := by kernel_rfl
theorem tb_bytesK_204 : bytesK Tryz.prog 204 = some 24 := by kernel_rfl
theorem tb_sliceElem_204 : sliceElem Tryz.prog 204 = some (5, 1) := by kernel_rfl
theorem tb_arrElem_204 : arrElem Tryz.prog 204 = none := by kernel_rfl
theorem tb_byteEl_204 : byteEl Tryz.prog 204 = true := by kernel_rfl
theorem tb_tk_205 : tk Tryz.prog 205 = TK.other := by kernel_rfl
theorem tb_loadK_205 : loadK Tryz.prog 205 = some (false, 1) := by kernel_rfl
theorem tb_zeroK_205 : zeroK Tryz.prog 205 = some [Value.nilFunc] := by kernel_rfl
theorem tb_bytesK_205 : bytesK Tryz.prog 205 = some 8 := by kernel_rfl
theorem tb_sliceElem_205 : sliceElem Tryz.prog 205 = none := by kernel_rfl
theorem tb_arrElem_205 : arrElem Tryz.prog 205 = none := by kernel_rfl
theorem tb_byteEl_205 : byteEl Tryz.prog 205 = false := by kernel_rfl
theorem tb_tk_209 : tk Tryz.prog 209 = TK.other := by kernel_rfl
theorem tb_loadK_209 : loadK Tryz.prog 209 = some (true, 4) := by kernel_rfl
theorem tb_zeroK_209 : zeroK Tryz.prog 209 = some [Value.int IntKind.i64 0, Value.int IntKind.u8 0, Value.slice none 0 0, Value.slice none 0 0] := by kernel_rfl
theorem tb_bytesK_209 : bytesK Tryz.prog 209 = some 64 := by kernel_rfl
theorem tb_sliceElem_209 : sliceElem Tryz.prog 209 = none := by kernel_rfl
theorem tb_arrElem_209 : arrElem Tryz.prog 209 = none := by kernel_rfl
theorem tb_placesK_209 : placesK Tryz.prog 209 = some [(0, 2), (2, 1), (3, 1)] := by kernel_rfl
theorem tb_byteEl_209 : byteEl Tryz.prog 209 = false := by kernel_rfl
theorem tb_fieldK_209_0 : fieldK Tryz.prog 209 0 = some (0, true, 2) := by kernel_rfl
theorem tb_fieldK_209_1 : fieldK Tryz.prog 209 1 = some (2, false, 1) := by kernel_rfl
theorem tb_fieldK_209_2 : fieldK Tryz.prog 209 2 = some (3, false, 1) := by kernel_rfl
theorem tb_tk_216 : tk Tryz.prog 216 = TK.other := by kernel_rfl
theorem tb_loadK_216 : loadK Tryz.prog 216 = some (true, 8) := by kernel_rfl
theorem tb_zeroK_216 : zeroK Tryz.prog 216 = some [Value.int IntKind.i64 0, Value.int IntKind.i64 0, Value.int IntKind.i64 0, Value.int IntKind.i64 0, Value.int IntKind.i64 0, Value.int IntKind.i64 0, Value.int IntKind.i64 0, Value.int IntKind.i64 0] := by kernel_rfl
theorem tb_bytesK_216 : bytesK Tryz.prog 216 = some 64 := by kernel_rfl
theorem tb_sliceElem_216 : sliceElem Tryz.prog 216 = none := by kernel_rfl
theorem tb_arrElem_216 : arrElem Tryz.prog 216 = some (2, 4) := by kernel_rfl
theorem tb_placesK_216 : placesK Tryz.prog 216 = some [(0, 4), (4, 4), (8, 4), (12, 4), (16, 4), (20, 4), (24, 4), (28, 4)] := by kernel_rfl
theorem tb_byteEl_216 : byteEl Tryz.prog 216 = false := by kernel_rfl
theorem tb_flatK_216 : flatK Tryz.prog 216 = some [TypeDesc.int IntKind.i64, TypeDesc.int IntKind.i64, TypeDesc.int IntKind.i64, TypeDesc.int IntKind.i64, TypeDesc.int IntKind.i64, TypeDesc.int IntKind.i64, TypeDesc.int IntKind.i64, TypeDesc.int IntKind.i64] := by kernel_rfl
theorem tb_arrLoad_216 : arrLoad Tryz.prog 216 = some (2, true, 4) := by kernel_rfl
theorem tb_tk_219 : tk Tryz.prog 219 = TK.other := by kernel_rfl
theorem tb_loadK_219 : loadK Tryz.prog 219 = some (false, 1) := by kernel_rfl
theorem tb_zeroK_219 : zeroK Tryz.prog 219 = some [Value.nilFunc] := by kernel_rfl
theorem tb_bytesK_219 : bytesK Tryz.prog 219 = some 8 := by kernel_rfl
theorem tb_sliceElem_219 : sliceElem Tryz.prog 219 = none := by kernel_rfl
theorem tb_arrElem_219 : arrElem Tryz.prog 219 = none := by kernel_rfl
theorem tb_byteEl_219 : byteEl Tryz.prog 219 = false := by kernel_rfl
theorem tb_tk_223 : tk Tryz.prog 223 = TK.other := by kernel_rfl
theorem tb_loadK_223 : loadK Tryz.prog 223 = some (false, 1) := by kernel_rfl
theorem tb_zeroK_223 : zeroK Tryz.prog 223 = some [Value.tuple { toList := [Value.slice none 0 0, Value.slice none 0 0] }] := by kernel_rfl
theorem tb_bytesK_223 : bytesK Tryz.prog 223 = some 0 := by kernel_rfl
theorem tb_sliceElem_223 : sliceElem Tryz.prog 223 = none := by kernel_rfl
theorem tb_arrElem_223 : arrElem Tryz.prog 223 = none := by kernel_rfl
theorem tb_byteEl_223 : byteEl Tryz.prog 223 = false := by kernel_rfl
theorem tb_tk_228 : tk Tryz.prog 228 = TK.other := by kernel_rfl
theorem tb_loadK_228 : loadK Tryz.prog 228 = some (true, 3) := by kernel_rfl
theorem tb_zeroK_228 : zeroK Tryz.prog 228 = some [Value.int IntKind.u8 0, Value.int IntKind.i64 0, Value.int IntKind.i64 0] := by kernel_rfl
theorem tb_bytesK_228 : bytesK Tryz.prog 228 = some 24 := by kernel_rfl
theorem tb_sliceElem_228 : sliceElem Tryz.prog 228 = none := by kernel_rfl
theorem tb_arrElem_228 : arrElem Tryz.prog 228 = none := by kernel_rfl
theorem tb_placesK_228 : placesK Tryz.prog 228 = some [(0, 1), (1, 1), (2, 1)] := by kernel_rfl
theorem tb_byteEl_228 : byteEl Tryz.prog 228 = false := by kernel_rfl
theorem tb_flatK_228 : flatK Tryz.prog 228 = some [TypeDesc.int IntKind.u8, TypeDesc.int IntKind.i64, TypeDesc.int IntKind.i64] := by kernel_rfl
theorem tb_fieldK_228_0 : fieldK Tryz.prog 228 0 = some (0, false, 1) := by kernel_rfl
theorem tb_fieldK_228_1 : fieldK Tryz.prog 228 1 = some (1, false, 1) := by kernel_rfl
theorem tb_fieldK_228_2 : fieldK Tryz.prog 228 2 = some (2, false, 1) := by kernel_rfl
theorem tb_tk_229 : tk Tryz.prog 229 = TK.other := by kernel_rfl
theorem tb_loadK_229 : loadK Tryz.prog 229 = some (true, 9) := by kernel_rfl
theorem tb_zeroK_229 : zeroK Tryz.prog 229 = some [Value.int IntKind.u8 0, Value.int IntKind.i64 0, Value.int IntKind.i64 0, Value.int IntKind.u8 0, Value.int IntKind.i64 0, Value.int IntKind.i64 0, Value.int IntKind.u8 0, Value.int IntKind.i64 0, Value.int IntKind.i64 0] := by kernel_rfl
theorem tb_bytesK_229 : bytesK Tryz.prog 229 = some 72 := by kernel_rfl
theorem tb_sliceElem_229 : sliceElem Tryz.prog 229 = none := by kernel_rfl
theorem tb_arrElem_229 : arrElem Tryz.prog 229 = some (3, 3) := by kernel_rfl
theorem tb_placesK_229 : placesK Tryz.prog 229 = some [(0, 3), (3, 3), (6, 3), (9, 3), (12, 3), (15, 3), (18, 3), (21, 3)] := by kernel_rfl
theorem tb_byteEl_229 : byteEl Tryz.prog 229 = false := by kernel_rfl
theorem tb_flatK_229 : flatK Tryz.prog 229 = some [TypeDesc.int IntKind.u8, TypeDesc.int IntKind.i64, TypeDesc.int IntKind.i64, TypeDesc.int IntKind.u8, TypeDesc.int IntKind.i64, TypeDesc.int IntKind.i64, TypeDesc.int IntKind.u8, TypeDesc.int IntKind.i64, TypeDesc.int IntKind.i64] := by kernel_rfl
theorem tb_arrLoad_229 : arrLoad Tryz.prog 229 = some (3, true, 3) := by kernel_rfl
theorem tb_tk_230 : tk Tryz.prog 230 = TK.mp := by kernel_rfl
theorem tb_loadK_230 : loadK Tryz.prog 230 = some (false, 1) := by kernel_rfl
theorem tb_zeroK_230 : zeroK Tryz.prog 230 = some [Value.map none] := by kernel_rfl
theorem tb_bytesK_230 : bytesK Tryz.prog 230 = some 8 := by kernel_rfl
theorem tb_byteEl_230 : byteEl Tryz.prog 230 = false := by kernel_rfl
theorem tb_mapK_230 : mapK Tryz.prog 230 = some (KD.agg [TypeDesc.int IntKind.i64, TypeDesc.int IntKind.i64], V.v (Value.int IntKind.i64 0)) := by kernel_rfl
theorem tb_tk_231 : tk Tryz.prog 231 = TK.other := by kernel_rfl
theorem tb_loadK_231 : loadK Tryz.prog 231 = some (false, 1) := by kernel_rfl
theorem tb_zeroK_231 : zeroK Tryz.prog 231 = some [Value.nilFunc] := by kernel_rfl
theorem tb_bytesK_231 : bytesK Tryz.prog 231 = some 8 := by kernel_rfl
theorem tb_sliceElem_231 : sliceElem Tryz.prog 231 = none := by kernel_rfl
theorem tb_arrElem_231 : arrElem Tryz.prog 231 = none := by kernel_rfl
theorem tb_byteEl_231 : byteEl Tryz.prog 231 = false := by kernel_rfl
theorem tb_tk_232 : tk Tryz.prog 232 = TK.other := by kernel_rfl
theorem tb_loadK_232 : loadK Tryz.prog 232 = some (false, 1) := by kernel_rfl
theorem tb_zeroK_232 : zeroK Tryz.prog 232 = some [Value.tuple { toList := [Value.agg { toList := [Value.int IntKind.u8 0, Value.int IntKind.i64 0, Value.int IntKind.i64 0] }, Value.int IntKind.i64 0] }] := by kernel_rfl
theorem tb_bytesK_232 : bytesK Tryz.prog 232 = some 0 := by kernel_rfl
theorem tb_sliceElem_232 : sliceElem Tryz.prog 232 = none := by kernel_rfl
theorem tb_arrElem_232 : arrElem Tryz.prog 232 = none := by kernel_rfl
theorem tb_byteEl_232 : byteEl Tryz.prog 232 = false := by kernel_rfl
theorem tb_tk_234 : tk Tryz.prog 234 = TK.other := by kernel_rfl
theorem tb_loadK_234 : loadK Tryz.prog 234 = some (true, 5) := by kernel_rfl
theorem tb_zeroK_234 : zeroK Tryz.prog 234 = some [Value.int IntKind.i64 0, Value.int IntKind.i64 0, Value.int IntKind.i64 0, Value.int IntKind.u8 0, Value.string ByteArray.empty] := by kernel_rfl
theorem tb_bytesK_234 : bytesK Tryz.prog 234 = some 48 := by kernel_rfl
theorem tb_sliceElem_234 : sliceElem Tryz.prog 234 = none := by kernel_rfl
theorem tb_arrElem_234 : arrElem Tryz.prog 234 = none := by kernel_rfl
theorem tb_placesK_234 : placesK Tryz.prog 234 = some [(0, 3), (3, 1), (4, 1)] := by kernel_rfl
theorem tb_byteEl_234 : byteEl Tryz.prog 234 = false := by kernel_rfl
theorem tb_flatK_234 : flatK Tryz.prog 234 = some [TypeDesc.int IntKind.i64, TypeDesc.int IntKind.i64, TypeDesc.int IntKind.i64, TypeDesc.int IntKind.u8, TypeDesc.string] := by kernel_rfl
theorem tb_fieldK_234_0 : fieldK Tryz.prog 234 0 = some (0, true, 3) := by kernel_rfl
theorem tb_fieldK_234_1 : fieldK Tryz.prog 234 1 = some (3, false, 1) := by kernel_rfl
theorem tb_fieldK_234_2 : fieldK Tryz.prog 234 2 = some (4, false, 1) := by kernel_rfl
theorem tb_tk_237 : tk Tryz.prog 237 = TK.other := by kernel_rfl
theorem tb_loadK_237 : loadK Tryz.prog 237 = some (true, 4) := by kernel_rfl
theorem tb_zeroK_237 : zeroK Tryz.prog 237 = some [Value.int IntKind.i64 0, Value.int IntKind.i64 0, Value.int IntKind.i64 0, Value.int IntKind.i64 0] := by kernel_rfl
theorem tb_bytesK_237 : bytesK Tryz.prog 237 = some 32 := by kernel_rfl
theorem tb_sliceElem_237 : sliceElem Tryz.prog 237 = none := by kernel_rfl
theorem tb_arrElem_237 : arrElem Tryz.prog 237 = none := by kernel_rfl
theorem tb_placesK_237 : placesK Tryz.prog 237 = some [(0, 1), (1, 1), (2, 1), (3, 1)] := by kernel_rfl
theorem tb_byteEl_237 : byteEl Tryz.prog 237 = false := by kernel_rfl
theorem tb_flatK_237 : flatK Tryz.prog 237 = some [TypeDesc.int IntKind.i64, TypeDesc.int IntKind.i64, TypeDesc.int IntKind.i64, TypeDesc.int IntKind.i64] := by kernel_rfl
theorem tb_fieldK_237_0 : fieldK Tryz.prog 237 0 = some (0, false, 1) := by kernel_rfl
theorem tb_fieldK_237_1 : fieldK Tryz.prog 237 1 = some (1, false, 1) := by kernel_rfl
theorem tb_fieldK_237_2 : fieldK Tryz.prog 237 2 = some (2, false, 1) := by kernel_rfl
theorem tb_fieldK_237_3 : fieldK Tryz.prog 237 3 = some (3, false, 1) := by kernel_rfl
theorem tb_tk_239 : tk Tryz.prog 239 = TK.other := by kernel_rfl
theorem tb_loadK_239 : loadK Tryz.prog 239 = some (false, 1) := by kernel_rfl
theorem tb_zeroK_239 : zeroK Tryz.prog 239 = some [Value.nilFunc] := by kernel_rfl
theorem tb_bytesK_239 : bytesK Tryz.prog 239 = some 8 := by kernel_rfl
theorem tb_sliceElem_239 : sliceElem Tryz.prog 239 = none := by kernel_rfl
theorem tb_arrElem_239 : arrElem Tryz.prog 239 = none := by kernel_rfl
theorem tb_byteEl_239 : byteEl Tryz.prog 239 = false := by kernel_rfl
theorem tb_tk_240 : tk Tryz.prog 240 = TK.other := by kernel_rfl
theorem tb_loadK_240 : loadK Tryz.prog 240 = some (false, 1) := by kernel_rfl
theorem tb_zeroK_240 : zeroK Tryz.prog 240 = some [Value.nilFunc] := by kernel_rfl
theorem tb_bytesK_240 : bytesK Tryz.prog 240 = some 8 := by kernel_rfl
theorem tb_sliceElem_240 : sliceElem Tryz.prog 240 = none := by kernel_rfl
theorem tb_arrElem_240 : arrElem Tryz.prog 240 = none := by kernel_rfl
theorem tb_byteEl_240 : byteEl Tryz.prog 240 = false := by kernel_rfl
theorem tb_tk_243 : tk Tryz.prog 243 = TK.other := by kernel_rfl
theorem tb_loadK_243 : loadK Tryz.prog 243 = some (false, 1) := by kernel_rfl
theorem tb_zeroK_243 : zeroK Tryz.prog 243 = some [Value.nilFunc] := by kernel_rfl
theorem tb_bytesK_243 : bytesK Tryz.prog 243 = some 8 := by kernel_rfl
theorem tb_sliceElem_243 : sliceElem Tryz.prog 243 = none := by kernel_rfl
theorem tb_arrElem_243 : arrElem Tryz.prog 243 = none := by kernel_rfl
theorem tb_byteEl_243 : byteEl Tryz.prog 243 = false := by kernel_rfl
theorem tb_tk_244 : tk Tryz.prog 244 = TK.other := by kernel_rfl
theorem tb_loadK_244 : loadK Tryz.prog 244 = some (true, 1) := by kernel_rfl
theorem tb_zeroK_244 : zeroK Tryz.prog 244 = some [Value.nilFunc] := by kernel_rfl
theorem tb_bytesK_244 : bytesK Tryz.prog 244 = some 8 := by kernel_rfl
theorem tb_sliceElem_244 : sliceElem Tryz.prog 244 = none := by kernel_rfl
theorem tb_arrElem_244 : arrElem Tryz.prog 244 = none := by kernel_rfl
theorem tb_placesK_244 : placesK Tryz.prog 244 = some [(0, 1)] := by kernel_rfl
theorem tb_byteEl_244 : byteEl Tryz.prog 244 = false := by kernel_rfl
theorem tb_fieldK_244_0 : fieldK Tryz.prog 244 0 = some (0, false, 1) := by kernel_rfl
theorem tb_tk_245 : tk Tryz.prog 245 = TK.other := by kernel_rfl
theorem tb_loadK_245 : loadK Tryz.prog 245 = some (true, 4) := by kernel_rfl
theorem tb_zeroK_245 : zeroK Tryz.prog 245 = some [Value.nilFunc, Value.nilFunc, Value.nilFunc, Value.nilFunc] := by kernel_rfl
theorem tb_bytesK_245 : bytesK Tryz.prog 245 = some 32 := by kernel_rfl
theorem tb_sliceElem_245 : sliceElem Tryz.prog 245 = none := by kernel_rfl
theorem tb_arrElem_245 : arrElem Tryz.prog 245 = some (4, 1) := by kernel_rfl
theorem tb_placesK_245 : placesK Tryz.prog 245 = some [(0, 1), (1, 1), (2, 1), (3, 1), (4, 1), (5, 1), (6, 1), (7, 1)] := by kernel_rfl
theorem tb_byteEl_245 : byteEl Tryz.prog 245 = false := by kernel_rfl
theorem tb_arrLoad_245 : arrLoad Tryz.prog 245 = some (4, true, 1) := by kernel_rfl
theorem tb_tk_248 : tk Tryz.prog 248 = TK.other := by kernel_rfl
theorem tb_loadK_248 : loadK Tryz.prog 248 = some (false, 1) := by kernel_rfl
theorem tb_zeroK_248 : zeroK Tryz.prog 248 = some [Value.nilFunc] := by kernel_rfl
theorem tb_bytesK_248 : bytesK Tryz.prog 248 = some 8 := by kernel_rfl
theorem tb_sliceElem_248 : sliceElem Tryz.prog 248 = none := by kernel_rfl
theorem tb_arrElem_248 : arrElem Tryz.prog 248 = none := by kernel_rfl
theorem tb_byteEl_248 : byteEl Tryz.prog 248 = false := by kernel_rfl
theorem tb_tk_249 : tk Tryz.prog 249 = TK.ptr := by kernel_rfl
theorem tb_loadK_249 : loadK Tryz.prog 249 = some (false, 1) := by kernel_rfl
theorem tb_zeroK_249 : zeroK Tryz.prog 249 = some [Value.pointer none] := by kernel_rfl
theorem tb_bytesK_249 : bytesK Tryz.prog 249 = some 8 := by kernel_rfl
theorem tb_sliceElem_249 : sliceElem Tryz.prog 249 = none := by kernel_rfl
theorem tb_arrElem_249 : arrElem Tryz.prog 249 = none := by kernel_rfl
theorem tb_byteEl_249 : byteEl Tryz.prog 249 = false := by kernel_rfl
theorem tb_tk_251 : tk Tryz.prog 251 = TK.other := by kernel_rfl
theorem tb_loadK_251 : loadK Tryz.prog 251 = some (true, 2) := by kernel_rfl
theorem tb_zeroK_251 : zeroK Tryz.prog 251 = some [Value.pointer none, Value.slice none 0 0] := by kernel_rfl
theorem tb_bytesK_251 : bytesK Tryz.prog 251 = some 32 := by kernel_rfl
theorem tb_sliceElem_251 : sliceElem Tryz.prog 251 = none := by kernel_rfl
theorem tb_arrElem_251 : arrElem Tryz.prog 251 = none := by kernel_rfl
theorem tb_placesK_251 : placesK Tryz.prog 251 = some [(0, 1), (1, 1)] := by kernel_rfl
theorem tb_byteEl_251 : byteEl Tryz.prog 251 = false := by kernel_rfl
theorem tb_fieldK_251_0 : fieldK Tryz.prog 251 0 = some (0, false, 1) := by kernel_rfl
theorem tb_fieldK_251_1 : fieldK Tryz.prog 251 1 = some (1, false, 1) := by kernel_rfl
theorem tb_tk_254 : tk Tryz.prog 254 = TK.other := by kernel_rfl
theorem tb_loadK_254 : loadK Tryz.prog 254 = some (false, 1) := by kernel_rfl
theorem tb_zeroK_254 : zeroK Tryz.prog 254 = some [Value.nilIface] := by kernel_rfl
theorem tb_bytesK_254 : bytesK Tryz.prog 254 = some 16 := by kernel_rfl
theorem tb_sliceElem_254 : sliceElem Tryz.prog 254 = none := by kernel_rfl
theorem tb_arrElem_254 : arrElem Tryz.prog 254 = none := by kernel_rfl
theorem tb_byteEl_254 : byteEl Tryz.prog 254 = false := by kernel_rfl
theorem tb_tk_255 : tk Tryz.prog 255 = TK.other := by kernel_rfl
theorem tb_loadK_255 : loadK Tryz.prog 255 = some (false, 1) := by kernel_rfl
theorem tb_zeroK_255 : zeroK Tryz.prog 255 = some [Value.tuple { toList := [Value.int IntKind.i64 0, Value.nilIface] }] := by kernel_rfl
theorem tb_bytesK_255 : bytesK Tryz.prog 255 = some 0 := by kernel_rfl
theorem tb_sliceElem_255 : sliceElem Tryz.prog 255 = none := by kernel_rfl
theorem tb_arrElem_255 : arrElem Tryz.prog 255 = none := by kernel_rfl
theorem tb_byteEl_255 : byteEl Tryz.prog 255 = false := by kernel_rfl
theorem tb_tk_258 : tk Tryz.prog 258 = TK.ptr := by kernel_rfl
theorem tb_loadK_258 : loadK Tryz.prog 258 = some (false, 1) := by kernel_rfl
theorem tb_zeroK_258 : zeroK Tryz.prog 258 = some [Value.pointer none] := by kernel_rfl
theorem tb_bytesK_258 : bytesK Tryz.prog 258 = some 8 := by kernel_rfl
theorem tb_sliceElem_258 : sliceElem Tryz.prog 258 = none := by kernel_rfl
theorem tb_arrElem_258 : arrElem Tryz.prog 258 = none := by kernel_rfl
theorem tb_byteEl_258 : byteEl Tryz.prog 258 = false := by kernel_rfl
theorem tb_tk_259 : tk Tryz.prog 259 = TK.other := by kernel_rfl
theorem tb_loadK_259 : loadK Tryz.prog 259 = some (false, 1) := by kernel_rfl
theorem tb_zeroK_259 : zeroK Tryz.prog 259 = some [Value.pointer none] := by kernel_rfl
theorem tb_bytesK_259 : bytesK Tryz.prog 259 = some 8 := by kernel_rfl
theorem tb_sliceElem_259 : sliceElem Tryz.prog 259 = none := by kernel_rfl
theorem tb_arrElem_259 : arrElem Tryz.prog 259 = none := by kernel_rfl
theorem tb_byteEl_259 : byteEl Tryz.prog 259 = false := by kernel_rfl
theorem mixed : Tryz.prog.follows .mixedOrders = true := by kernel_rfl
attribute [go_sem] tb_tk_0 tb_loadK_0 tb_zeroK_0 tb_bytesK_0 tb_sliceElem_0 tb_arrElem_0 tb_byteEl_0 tb_tk_1 tb_loadK_1 tb_zeroK_1 tb_bytesK_1 tb_sliceElem_1
attribute [go_sem] tb_arrElem_1 tb_byteEl_1 tb_tk_2 tb_loadK_2 tb_zeroK_2 tb_bytesK_2 tb_byteEl_2 tb_tk_3 tb_loadK_3 tb_zeroK_3 tb_bytesK_3 tb_byteEl_3
attribute [go_sem] tb_tk_4 tb_loadK_4 tb_zeroK_4 tb_bytesK_4 tb_byteEl_4 tb_tk_5 tb_loadK_5 tb_zeroK_5 tb_bytesK_5 tb_byteEl_5 tb_tk_6 tb_loadK_6
attribute [go_sem] tb_zeroK_6 tb_bytesK_6 tb_byteEl_6 tb_tk_7 tb_loadK_7 tb_zeroK_7 tb_bytesK_7 tb_sliceElem_7 tb_arrElem_7 tb_placesK_7 tb_byteEl_7 tb_flatK_7
attribute [go_sem] tb_fieldK_7_0 tb_fieldK_7_1 tb_fieldK_7_2 tb_fieldK_7_3 tb_tk_8 tb_loadK_8 tb_zeroK_8 tb_bytesK_8 tb_sliceElem_8 tb_arrElem_8 tb_placesK_8 tb_byteEl_8
attribute [go_sem] tb_flatK_8 tb_fieldK_8_0 tb_fieldK_8_1 tb_fieldK_8_2 tb_fieldK_8_3 tb_tk_9 tb_loadK_9 tb_zeroK_9 tb_bytesK_9 tb_byteEl_9 tb_arrLoad_9 tb_tk_10
attribute [go_sem] tb_loadK_10 tb_zeroK_10 tb_bytesK_10 tb_byteEl_10 tb_arrLoad_10 tb_tk_11 tb_loadK_11 tb_zeroK_11 tb_bytesK_11 tb_byteEl_11 tb_arrLoad_11 tb_tk_12
attribute [go_sem] tb_loadK_12 tb_zeroK_12 tb_bytesK_12 tb_byteEl_12 tb_tk_13 tb_loadK_13 tb_zeroK_13 tb_bytesK_13 tb_sliceElem_13 tb_arrElem_13 tb_placesK_13 tb_byteEl_13
attribute [go_sem] tb_fieldK_13_0 tb_fieldK_13_1 tb_tk_14 tb_loadK_14 tb_zeroK_14 tb_bytesK_14 tb_sliceElem_14 tb_arrElem_14 tb_placesK_14 tb_byteEl_14 tb_fieldK_14_0 tb_fieldK_14_1
attribute [go_sem] tb_tk_15 tb_loadK_15 tb_zeroK_15 tb_bytesK_15 tb_sliceElem_15 tb_arrElem_15 tb_byteEl_15 tb_tk_16 tb_loadK_16 tb_zeroK_16 tb_bytesK_16 tb_sliceElem_16
attribute [go_sem] tb_arrElem_16 tb_byteEl_16 tb_tk_17 tb_loadK_17 tb_zeroK_17 tb_bytesK_17 tb_sliceElem_17 tb_arrElem_17 tb_byteEl_17 tb_tk_18 tb_loadK_18 tb_zeroK_18
attribute [go_sem] tb_bytesK_18 tb_sliceElem_18 tb_arrElem_18 tb_placesK_18 tb_byteEl_18 tb_fieldK_18_0 tb_tk_19 tb_loadK_19 tb_zeroK_19 tb_bytesK_19 tb_sliceElem_19 tb_arrElem_19
attribute [go_sem] tb_placesK_19 tb_byteEl_19 tb_fieldK_19_0 tb_tk_20 tb_loadK_20 tb_zeroK_20 tb_bytesK_20 tb_sliceElem_20 tb_arrElem_20 tb_byteEl_20 tb_tk_21 tb_loadK_21
attribute [go_sem] tb_zeroK_21 tb_bytesK_21 tb_byteEl_21 tb_tk_22 tb_loadK_22 tb_zeroK_22 tb_bytesK_22 tb_sliceElem_22 tb_arrElem_22 tb_byteEl_22 tb_tk_23 tb_loadK_23
attribute [go_sem] tb_zeroK_23 tb_bytesK_23 tb_sliceElem_23 tb_arrElem_23 tb_placesK_23 tb_byteEl_23 tb_fieldK_23_0 tb_tk_24 tb_loadK_24 tb_zeroK_24 tb_bytesK_24 tb_sliceElem_24
attribute [go_sem] tb_arrElem_24 tb_placesK_24 tb_byteEl_24 tb_fieldK_24_0 tb_tk_25 tb_loadK_25 tb_zeroK_25 tb_bytesK_25 tb_sliceElem_25 tb_arrElem_25 tb_byteEl_25 tb_tk_26
attribute [go_sem] tb_loadK_26 tb_zeroK_26 tb_bytesK_26 tb_sliceElem_26 tb_arrElem_26 tb_byteEl_26 tb_tk_27 tb_loadK_27 tb_zeroK_27 tb_bytesK_27 tb_sliceElem_27 tb_arrElem_27
attribute [go_sem] tb_byteEl_27 tb_tk_28 tb_loadK_28 tb_zeroK_28 tb_bytesK_28 tb_sliceElem_28 tb_arrElem_28 tb_placesK_28 tb_byteEl_28 tb_fieldK_28_0 tb_fieldK_28_1 tb_fieldK_28_2
attribute [go_sem] tb_fieldK_28_3 tb_tk_29 tb_loadK_29 tb_zeroK_29 tb_bytesK_29 tb_sliceElem_29 tb_arrElem_29 tb_placesK_29 tb_byteEl_29 tb_fieldK_29_0 tb_fieldK_29_1 tb_fieldK_29_2
attribute [go_sem] tb_fieldK_29_3 tb_tk_30 tb_loadK_30 tb_zeroK_30 tb_bytesK_30 tb_sliceElem_30 tb_arrElem_30 tb_placesK_30 tb_byteEl_30 tb_flatK_30 tb_fieldK_30_0 tb_fieldK_30_1
attribute [go_sem] tb_tk_31 tb_loadK_31 tb_zeroK_31 tb_bytesK_31 tb_sliceElem_31 tb_arrElem_31 tb_placesK_31 tb_byteEl_31 tb_flatK_31 tb_fieldK_31_0 tb_fieldK_31_1 tb_tk_32
attribute [go_sem] tb_loadK_32 tb_zeroK_32 tb_bytesK_32 tb_sliceElem_32 tb_arrElem_32 tb_byteEl_32 tb_tk_33 tb_loadK_33 tb_zeroK_33 tb_bytesK_33 tb_sliceElem_33 tb_arrElem_33
attribute [go_sem] tb_byteEl_33 tb_tk_34 tb_loadK_34 tb_zeroK_34 tb_bytesK_34 tb_sliceElem_34 tb_arrElem_34 tb_byteEl_34 tb_tk_35 tb_loadK_35 tb_zeroK_35 tb_bytesK_35
attribute [go_sem] tb_byteEl_35 tb_tk_36 tb_loadK_36 tb_zeroK_36 tb_bytesK_36 tb_sliceElem_36 tb_arrElem_36 tb_byteEl_36 tb_tk_37 tb_loadK_37 tb_zeroK_37 tb_bytesK_37
attribute [go_sem] tb_sliceElem_37 tb_arrElem_37 tb_byteEl_37 tb_tk_38 tb_loadK_38 tb_zeroK_38 tb_bytesK_38 tb_sliceElem_38 tb_arrElem_38 tb_byteEl_38
attribute [go_sem] tb_tk_40 tb_loadK_40 tb_zeroK_40 tb_bytesK_40 tb_sliceElem_40 tb_arrElem_40 tb_byteEl_40
attribute [go_sem] tb_tk_41 tb_loadK_41 tb_zeroK_41 tb_bytesK_41 tb_sliceElem_41 tb_arrElem_41 tb_byteEl_41
attribute [go_sem] tb_tk_43 tb_loadK_43 tb_zeroK_43 tb_bytesK_43 tb_sliceElem_43 tb_arrElem_43 tb_byteEl_43 tb_tk_44 tb_loadK_44 tb_zeroK_44
attribute [go_sem] tb_bytesK_44 tb_sliceElem_44 tb_arrElem_44 tb_byteEl_44 tb_tk_45 tb_loadK_45 tb_zeroK_45 tb_bytesK_45 tb_sliceElem_45 tb_arrElem_45 tb_byteEl_45 tb_tk_46
attribute [go_sem] tb_loadK_46 tb_zeroK_46 tb_bytesK_46 tb_sliceElem_46 tb_arrElem_46 tb_byteEl_46
attribute [go_sem] tb_tk_48 tb_loadK_48 tb_zeroK_48 tb_bytesK_48 tb_sliceElem_48 tb_arrElem_48 tb_byteEl_48
attribute [go_sem] tb_tk_52 tb_loadK_52 tb_zeroK_52 tb_bytesK_52 tb_sliceElem_52 tb_arrElem_52 tb_byteEl_52
attribute [go_sem] tb_tk_54 tb_loadK_54 tb_zeroK_54 tb_bytesK_54 tb_sliceElem_54
attribute [go_sem] tb_arrElem_54 tb_byteEl_54
attribute [go_sem] tb_tk_57 tb_loadK_57 tb_zeroK_57 tb_bytesK_57 tb_sliceElem_57 tb_arrElem_57 tb_byteEl_57
attribute [go_sem] tb_tk_59 tb_loadK_59 tb_zeroK_59
attribute [go_sem] tb_bytesK_59 tb_sliceElem_59 tb_arrElem_59 tb_placesK_59 tb_byteEl_59 tb_fieldK_59_0 tb_fieldK_59_1 tb_tk_60 tb_loadK_60 tb_zeroK_60 tb_bytesK_60 tb_sliceElem_60
attribute [go_sem] tb_arrElem_60 tb_byteEl_60 tb_tk_62 tb_loadK_62 tb_zeroK_62
attribute [go_sem] tb_bytesK_62 tb_sliceElem_62 tb_arrElem_62 tb_byteEl_62
attribute [go_sem] tb_tk_66 tb_loadK_66 tb_zeroK_66 tb_bytesK_66 tb_sliceElem_66 tb_arrElem_66 tb_byteEl_66 tb_tk_67 tb_loadK_67 tb_zeroK_67 tb_bytesK_67
attribute [go_sem] tb_sliceElem_67 tb_arrElem_67 tb_byteEl_67 tb_tk_68 tb_loadK_68 tb_zeroK_68 tb_bytesK_68 tb_sliceElem_68 tb_arrElem_68 tb_byteEl_68
attribute [go_sem] tb_tk_72 tb_loadK_72 tb_zeroK_72 tb_bytesK_72 tb_sliceElem_72
attribute [go_sem] tb_arrElem_72 tb_byteEl_72 tb_tk_73 tb_loadK_73 tb_zeroK_73 tb_bytesK_73 tb_sliceElem_73 tb_arrElem_73 tb_placesK_73 tb_byteEl_73 tb_flatK_73 tb_arrLoad_73
attribute [go_sem] tb_tk_76 tb_loadK_76 tb_zeroK_76 tb_bytesK_76 tb_sliceElem_76 tb_arrElem_76 tb_byteEl_76
attribute [go_sem] tb_tk_78 tb_loadK_78 tb_zeroK_78 tb_bytesK_78 tb_sliceElem_78 tb_arrElem_78 tb_byteEl_78
attribute [go_sem] tb_tk_80 tb_loadK_80 tb_zeroK_80 tb_bytesK_80 tb_sliceElem_80 tb_arrElem_80 tb_placesK_80 tb_byteEl_80 tb_flatK_80 tb_fieldK_80_0 tb_fieldK_80_1 tb_fieldK_80_2
attribute [go_sem] tb_fieldK_80_3
attribute [go_sem] tb_tk_82 tb_loadK_82 tb_zeroK_82 tb_bytesK_82 tb_sliceElem_82 tb_arrElem_82 tb_placesK_82 tb_byteEl_82 tb_flatK_82 tb_fieldK_82_0 tb_fieldK_82_1
attribute [go_sem] tb_fieldK_82_2 tb_tk_84
attribute [go_sem] tb_loadK_84 tb_zeroK_84 tb_bytesK_84 tb_sliceElem_84 tb_arrElem_84 tb_placesK_84 tb_byteEl_84 tb_fieldK_84_0 tb_fieldK_84_1 tb_tk_85 tb_loadK_85 tb_zeroK_85
attribute [go_sem] tb_bytesK_85 tb_sliceElem_85 tb_arrElem_85 tb_byteEl_85 tb_tk_87
attribute [go_sem] tb_loadK_87 tb_zeroK_87 tb_bytesK_87 tb_sliceElem_87 tb_arrElem_87 tb_byteEl_87
attribute [go_sem] tb_tk_91 tb_loadK_91 tb_zeroK_91 tb_bytesK_91
attribute [go_sem] tb_sliceElem_91 tb_arrElem_91 tb_placesK_91 tb_byteEl_91 tb_flatK_91 tb_fieldK_91_0 tb_fieldK_91_1 tb_fieldK_91_2
attribute [go_sem] tb_tk_93 tb_loadK_93 tb_zeroK_93
attribute [go_sem] tb_bytesK_93 tb_sliceElem_93 tb_arrElem_93 tb_placesK_93 tb_byteEl_93 tb_flatK_93 tb_fieldK_93_0 tb_fieldK_93_1 tb_fieldK_93_2 tb_fieldK_93_3
attribute [go_sem] tb_tk_97 tb_loadK_97 tb_zeroK_97 tb_bytesK_97 tb_sliceElem_97 tb_arrElem_97 tb_placesK_97 tb_byteEl_97 tb_flatK_97 tb_fieldK_97_0 tb_fieldK_97_1 tb_fieldK_97_2
attribute [go_sem] tb_tk_101 tb_loadK_101 tb_zeroK_101 tb_bytesK_101 tb_sliceElem_101
attribute [go_sem] tb_arrElem_101 tb_byteEl_101
attribute [go_sem] tb_tk_115 tb_loadK_115 tb_zeroK_115
attribute [go_sem] tb_bytesK_115 tb_sliceElem_115 tb_arrElem_115 tb_byteEl_115 tb_tk_116 tb_loadK_116 tb_zeroK_116 tb_bytesK_116 tb_sliceElem_116 tb_arrElem_116 tb_byteEl_116
attribute [go_sem] tb_tk_118 tb_loadK_118 tb_zeroK_118 tb_bytesK_118 tb_sliceElem_118 tb_arrElem_118
attribute [go_sem] tb_byteEl_118
attribute [go_sem] tb_tk_120 tb_loadK_120 tb_zeroK_120 tb_bytesK_120 tb_sliceElem_120 tb_arrElem_120 tb_placesK_120 tb_byteEl_120 tb_fieldK_120_0 tb_fieldK_120_1 tb_fieldK_120_2 tb_tk_121
attribute [go_sem] tb_loadK_121 tb_zeroK_121 tb_bytesK_121 tb_sliceElem_121 tb_arrElem_121 tb_byteEl_121 tb_tk_122 tb_loadK_122 tb_zeroK_122 tb_bytesK_122 tb_sliceElem_122 tb_arrElem_122
attribute [go_sem] tb_byteEl_122
attribute [go_sem] tb_tk_127 tb_loadK_127 tb_zeroK_127 tb_bytesK_127 tb_sliceElem_127 tb_arrElem_127 tb_byteEl_127
attribute [go_sem] tb_tk_133
attribute [go_sem] tb_loadK_133 tb_zeroK_133 tb_bytesK_133 tb_byteEl_133 tb_mapK_133
attribute [go_sem] tb_tk_135 tb_loadK_135 tb_zeroK_135 tb_bytesK_135 tb_sliceElem_135 tb_arrElem_135 tb_byteEl_135
attribute [go_sem] tb_tk_141 tb_loadK_141 tb_zeroK_141 tb_bytesK_141 tb_sliceElem_141 tb_arrElem_141
attribute [go_sem] tb_byteEl_141 tb_tk_143 tb_loadK_143 tb_zeroK_143 tb_bytesK_143
attribute [go_sem] tb_sliceElem_143 tb_arrElem_143 tb_byteEl_143 tb_tk_144 tb_loadK_144 tb_zeroK_144 tb_bytesK_144 tb_sliceElem_144 tb_arrElem_144 tb_byteEl_144
attribute [go_sem] tb_tk_146 tb_loadK_146 tb_zeroK_146 tb_bytesK_146 tb_sliceElem_146 tb_arrElem_146 tb_byteEl_146
attribute [go_sem] tb_tk_155 tb_loadK_155 tb_zeroK_155 tb_bytesK_155 tb_sliceElem_155 tb_arrElem_155
attribute [go_sem] tb_byteEl_155
attribute [go_sem] tb_tk_158 tb_loadK_158 tb_zeroK_158 tb_bytesK_158 tb_sliceElem_158 tb_arrElem_158 tb_byteEl_158
attribute [go_sem] tb_tk_169 tb_loadK_169 tb_zeroK_169 tb_bytesK_169
attribute [go_sem] tb_sliceElem_169 tb_arrElem_169 tb_byteEl_169 tb_tk_170 tb_loadK_170 tb_zeroK_170 tb_bytesK_170 tb_byteEl_170 tb_mapK_170 tb_tk_171 tb_loadK_171 tb_zeroK_171
attribute [go_sem] tb_bytesK_171 tb_sliceElem_171 tb_arrElem_171 tb_byteEl_171
attribute [go_sem] tb_tk_173 tb_loadK_173 tb_zeroK_173 tb_bytesK_173 tb_sliceElem_173 tb_arrElem_173 tb_placesK_173 tb_byteEl_173
attribute [go_sem] tb_flatK_173 tb_fieldK_173_0 tb_fieldK_173_1 tb_fieldK_173_2 tb_tk_174 tb_loadK_174 tb_zeroK_174 tb_bytesK_174 tb_sliceElem_174 tb_arrElem_174 tb_byteEl_174 tb_tk_175
attribute [go_sem] tb_loadK_175 tb_zeroK_175 tb_bytesK_175 tb_sliceElem_175 tb_arrElem_175 tb_byteEl_175
attribute [go_sem] tb_tk_177 tb_loadK_177 tb_zeroK_177 tb_bytesK_177 tb_sliceElem_177 tb_arrElem_177 tb_placesK_177 tb_byteEl_177
attribute [go_sem] tb_fieldK_177_0 tb_fieldK_177_1 tb_tk_178 tb_loadK_178 tb_zeroK_178 tb_bytesK_178 tb_sliceElem_178 tb_arrElem_178 tb_placesK_178 tb_byteEl_178 tb_arrLoad_178 tb_tk_179
attribute [go_sem] tb_loadK_179 tb_zeroK_179 tb_bytesK_179 tb_sliceElem_179 tb_arrElem_179 tb_byteEl_179
attribute [go_sem] tb_tk_181 tb_loadK_181 tb_zeroK_181 tb_bytesK_181 tb_sliceElem_181 tb_arrElem_181 tb_byteEl_181
attribute [go_sem] tb_tk_188 tb_loadK_188 tb_zeroK_188 tb_bytesK_188 tb_sliceElem_188 tb_arrElem_188 tb_byteEl_188
attribute [go_sem] tb_tk_200 tb_loadK_200 tb_zeroK_200 tb_bytesK_200 tb_sliceElem_200 tb_arrElem_200 tb_byteEl_200
attribute [go_sem] tb_tk_204 tb_loadK_204 tb_zeroK_204 tb_bytesK_204 tb_sliceElem_204 tb_arrElem_204
attribute [go_sem] tb_byteEl_204 tb_tk_205 tb_loadK_205 tb_zeroK_205 tb_bytesK_205 tb_sliceElem_205 tb_arrElem_205 tb_byteEl_205
attribute [go_sem] tb_tk_209 tb_loadK_209 tb_zeroK_209
attribute [go_sem] tb_bytesK_209 tb_sliceElem_209 tb_arrElem_209 tb_placesK_209 tb_byteEl_209 tb_fieldK_209_0 tb_fieldK_209_1 tb_fieldK_209_2
attribute [go_sem] tb_tk_216 tb_loadK_216 tb_zeroK_216 tb_bytesK_216 tb_sliceElem_216 tb_arrElem_216
attribute [go_sem] tb_placesK_216 tb_byteEl_216 tb_flatK_216 tb_arrLoad_216
attribute [go_sem] tb_tk_219 tb_loadK_219 tb_zeroK_219 tb_bytesK_219 tb_sliceElem_219 tb_arrElem_219
attribute [go_sem] tb_byteEl_219
attribute [go_sem] tb_tk_223 tb_loadK_223
attribute [go_sem] tb_zeroK_223 tb_bytesK_223 tb_sliceElem_223 tb_arrElem_223 tb_byteEl_223
attribute [go_sem] tb_tk_228 tb_loadK_228 tb_zeroK_228 tb_bytesK_228 tb_sliceElem_228 tb_arrElem_228 tb_placesK_228 tb_byteEl_228 tb_flatK_228 tb_fieldK_228_0
attribute [go_sem] tb_fieldK_228_1 tb_fieldK_228_2 tb_tk_229 tb_loadK_229 tb_zeroK_229 tb_bytesK_229 tb_sliceElem_229 tb_arrElem_229 tb_placesK_229 tb_byteEl_229 tb_flatK_229 tb_arrLoad_229
attribute [go_sem] tb_tk_230 tb_loadK_230 tb_zeroK_230 tb_bytesK_230 tb_byteEl_230 tb_mapK_230 tb_tk_231 tb_loadK_231 tb_zeroK_231 tb_bytesK_231 tb_sliceElem_231 tb_arrElem_231
attribute [go_sem] tb_byteEl_231 tb_tk_232 tb_loadK_232 tb_zeroK_232 tb_bytesK_232 tb_sliceElem_232 tb_arrElem_232 tb_byteEl_232
attribute [go_sem] tb_tk_234 tb_loadK_234 tb_zeroK_234 tb_bytesK_234
attribute [go_sem] tb_sliceElem_234 tb_arrElem_234 tb_placesK_234 tb_byteEl_234 tb_flatK_234 tb_fieldK_234_0 tb_fieldK_234_1 tb_fieldK_234_2
attribute [go_sem] tb_tk_237 tb_loadK_237 tb_zeroK_237 tb_bytesK_237 tb_sliceElem_237 tb_arrElem_237 tb_placesK_237 tb_byteEl_237
attribute [go_sem] tb_flatK_237 tb_fieldK_237_0 tb_fieldK_237_1 tb_fieldK_237_2 tb_fieldK_237_3
attribute [go_sem] tb_tk_239 tb_loadK_239 tb_zeroK_239 tb_bytesK_239 tb_sliceElem_239 tb_arrElem_239 tb_byteEl_239 tb_tk_240 tb_loadK_240 tb_zeroK_240 tb_bytesK_240 tb_sliceElem_240
attribute [go_sem] tb_arrElem_240 tb_byteEl_240
attribute [go_sem] tb_tk_243 tb_loadK_243 tb_zeroK_243 tb_bytesK_243 tb_sliceElem_243 tb_arrElem_243 tb_byteEl_243 tb_tk_244
attribute [go_sem] tb_loadK_244 tb_zeroK_244 tb_bytesK_244 tb_sliceElem_244 tb_arrElem_244 tb_placesK_244 tb_byteEl_244 tb_fieldK_244_0 tb_tk_245 tb_loadK_245 tb_zeroK_245 tb_bytesK_245
attribute [go_sem] tb_sliceElem_245 tb_arrElem_245 tb_placesK_245 tb_byteEl_245 tb_arrLoad_245
attribute [go_sem] tb_tk_248 tb_loadK_248 tb_zeroK_248 tb_bytesK_248 tb_sliceElem_248
attribute [go_sem] tb_arrElem_248 tb_byteEl_248 tb_tk_249 tb_loadK_249 tb_zeroK_249 tb_bytesK_249 tb_sliceElem_249 tb_arrElem_249 tb_byteEl_249
attribute [go_sem] tb_tk_251 tb_loadK_251 tb_zeroK_251 tb_bytesK_251 tb_sliceElem_251
attribute [go_sem] tb_arrElem_251 tb_placesK_251 tb_byteEl_251 tb_fieldK_251_0 tb_fieldK_251_1
attribute [go_sem] tb_tk_254 tb_loadK_254 tb_zeroK_254 tb_bytesK_254 tb_sliceElem_254
attribute [go_sem] tb_arrElem_254 tb_byteEl_254 tb_tk_255 tb_loadK_255 tb_zeroK_255 tb_bytesK_255 tb_sliceElem_255 tb_arrElem_255 tb_byteEl_255
attribute [go_sem] tb_tk_258
attribute [go_sem] tb_loadK_258 tb_zeroK_258 tb_bytesK_258 tb_sliceElem_258 tb_arrElem_258 tb_byteEl_258 tb_tk_259 tb_loadK_259 tb_zeroK_259 tb_bytesK_259 tb_sliceElem_259 tb_arrElem_259
attribute [go_sem] tb_byteEl_259
end Go.Proofs.YtfnohnjnncjidaaGreatDoor
