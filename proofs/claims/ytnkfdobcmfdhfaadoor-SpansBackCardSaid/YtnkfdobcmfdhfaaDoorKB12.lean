import Derived.Test.YtnkfdobcmfdhfaaDoorKB11

