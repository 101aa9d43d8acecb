import Derived.Test.YtnkfdobcmfdhfaaDoorKP11

